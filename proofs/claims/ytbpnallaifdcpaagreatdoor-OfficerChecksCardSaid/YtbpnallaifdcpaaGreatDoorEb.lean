/- The evaluator, further. -/
import Derived.Test.YtbpnallaifdcpaaGreatDoorEa
set_option linter.unusedVariables false
set_option linter.unusedSimpArgs false
open Go
open Option renaming some→F,none→H
open Go.Result renaming andThen_ok→I
open Go.Sem renaming run_bind→J,run_pure→O
open Go renaming Value→N,TypeId→S,Operand→W,Oper→Z,World→aa
open Bool renaming and_eq_true→Q
open Nat renaming eq_of_beq_eq_true→U
namespace Ev
section
section
variable {E:Env} {G:aD} {ρ:aj} {st:St} {w:aa} {T:Tr AV} {a:Act} {o:Z}
theorem bA {x:Option AV} {y:Option N} {d n:Nat} (h:match x,y with|none,H=>True|some u,F v=>VR ρ u v|_,_=>False) (hn:am x d=F n) (top:Nat) (code:BoundsCode) (w:aa):
  match y with
  |none=>n=d
  |some v=>n<=top->(Instr.sliceBound v top code).run E.P w= .ok n w:=by
 cases x with
 |none=>cases y with
  |none=>simpa[am]using hn.symm
  |some v=>exact h.elim
 |some u=>cases y with
  |none=>exact h.elim
  |some v=>
   simp only[am]at hn
   split at hn
   ·rename_i i hi
    obtain⟨k,rfl⟩:=aR h hi
    split at hn
    ·rename_i h0
     cases hn
     intro hle
     have hb:0<=i/\i<=(top:Int):=⟨h0,by omega⟩
     simp[Instr.sliceBound,asIntOf,hb]
    ·cases hn
   ·cases hn
def hY (ρ:aj) (x:Option AV) (y:Option N):Prop:=match x,y with|none,H=>True|some u,F v=>VR ρ u v|_,_=>False
theorem a5 {mx hi lo:Option AV} {mx' hi' lo':Option N} (hm:hY ρ mx mx') (hh:hY ρ hi hi') (hl:hY ρ lo lo') {len cap capA m h l:Nat} (isS:Bool) (h1:am mx capA=F m) (h2:am hi len=F h) (h3:am lo 0=F l)
  (hlh:l<=h) (hhm:h<=m) (hmc:m<=capA) (hc:capA<=cap) (hmh:mx.isSome=true->hi.isSome=true) (w:aa):
  (Instr.sliceBounds isS len cap lo' hi' mx').run E.P w= .ok (l,h,if mx.isSome then m else cap) w:=by
 have hle:l<=h:=hlh
 unfold Instr.sliceBounds
 cases mx with
 |none=>
  cases mx' with
  |some _=>exact hm.elim
  |none=>
  have hm':m=capA:=by simpa[am]using h1.symm
  subst hm'
  cases hi with
  |none=>
   cases hi' with
   |some _=>exact hh.elim
   |none=>
   have:h=len:=by simpa[am]using h2.symm
   subst this
   cases lo with
   |none=>
    cases lo' with
    |some _=>exact hl.elim
    |none=>
    have:l=0:=by simpa[am]using h3.symm
    subst this
    simp
   |some u=>
    cases lo' with
    |none=>exact hl.elim
    |some v=>
    have:=bA (E:=E) (ρ:=ρ) (x:=F u) (y:=F v) hl h3 h .sliceB w hlh
    simp[this]
  |some u=>
   cases hi' with
   |none=>exact hh.elim
   |some v=>
   have hb:=λcode=>bA (E:=E) (ρ:=ρ) (x:=F u) (y:=F v) hh h2 cap code w (by omega)
   cases lo with
   |none=>
    cases lo' with
    |some _=>exact hl.elim
    |none=>
    have:l=0:=by simpa[am]using h3.symm
    subst this
    simp[hb]
   |some u'=>
    cases lo' with
    |none=>exact hl.elim
    |some v'=>
    have:=bA (E:=E) (ρ:=ρ) (x:=F u') (y:=F v') hl h3 h .sliceB w hlh
    simp[hb,this]
 |some um=>
  cases mx' with
  |none=>exact hm.elim
  |some vm=>
  have hbm:=λcode=>bA (E:=E) (ρ:=ρ) (x:=F um) (y:=F vm) hm h1 cap code w (by omega)
  cases hi with
  |none=>exact absurd (hmh rfl) (by simp)
  |some u=>
   cases hi' with
   |none=>exact hh.elim
   |some v=>
   have hb:=λcode=>bA (E:=E) (ρ:=ρ) (x:=F u) (y:=F v) hh h2 m code w (by omega)
   cases lo with
   |none=>
    cases lo' with
    |some _=>exact hl.elim
    |none=>
    have:l=0:=by simpa[am]using h3.symm
    subst this
    simp[hb,hbm]
   |some u'=>
    cases lo' with
    |none=>exact hl.elim
    |some v'=>
    have:=λcode=>bA (E:=E) (ρ:=ρ) (x:=F u') (y:=F v') hl h3 h code w hlh
    simp[hb,hbm,this]
theorem hY.evalO (hR:Rel E G ρ st w.heap) (hE:ER ρ T a.tmps) {x:Option W} (hx:∀y,x=F y->ac E.P.globals.size y=true):hY ρ (x.map (V T)) (x.map a.eval):=by
 cases x with
 |none=>trivial
 |some y=>exact VR.evalO hE (λi hi=>hR.glob i hi) (hx y rfl)
theorem iK (hOK:EOK E) (hR:Rel E G ρ st w.heap) (hE:ER ρ T a.tmps) (ho:ao E.P.globals.size o=true) {t:S} {x:W} {lo hi mx:Option W} (hop:o.op= .slice t x lo hi mx) (hx:ac E.P.globals.size x=true)
  (hlo:∀y,lo=F y->ac E.P.globals.size y=true) (hhi:∀y,hi=F y->ac E.P.globals.size y=true) (hmx:∀y,mx=F y->ac E.P.globals.size y=true):
  bl E G ρ st w ((execOp a.eval o).run E.P w) (cT E o T st t x lo hi mx):=by
 have hpure:=aS hR hE ho
 have h1:=VR.evalO hE (λi hi=>hR.glob i hi) hx
 have rl:=hY.evalO hR hE hlo
 have rh:=hY.evalO hR hE hhi
 have rm:=hY.evalO hR hE hmx
 unfold cT
 split
 ·exact hpure
 ·split
  ·rename_i v hv
   simp only[execOp,hop]
   generalize V T x=u at h1 hv
   generalize a.eval x=z at h1
   generalize lo.map (V T)=alo at rl hv
   generalize hi.map (V T)=ahi at rh hv
   generalize mx.map (V T)=amx at rm hv
   unfold ka at hv
   split at hv
   ·rename_i ti hti
    obtain⟨d,hd,hu⟩:=(hOK.ty _ _ hti).run_underlying
    split at hv
    ·
     rename_i n es ea b off hk
     rw[hk]at hd
     obtain⟨e,rfl,rfl,_,hkn⟩:=hd
     cases h1 with
     |@ptr _ _ bb ee hi'=>
     split at hv
     ·rename_i m hm
      split at hv
      ·rename_i h hh
       split at hv
       ·rename_i l hl
        split at hv
        ·rename_i hc
         cases hv
         have hb:=a5 (E:=E) rm rh rl (cap:=n) false hm hh hl hc.1 hc.2.1 hc.2.2.1 (Nat.le_refl _) hc.2.2.2 w
         have hmm:(if amx.isSome=true then m else n)=m:=by
          cases amx with
          |none=>simpa[am]using hm
          |some _=>rfl
         rw[hmm]at hb
         refine .of_still hR ⟨.slice (F (if m=l then⟨bb,off,H⟩else(⟨bb,off,H⟩:Addr).add (l*E.P.cellsOf e))) (h - l) (m - l),?_,?_⟩
         ·simp[Instr.sliceAt,hu,Instr.sureAddr,hb,ab hkn]
         ·by_cases hml:m=l
          ·simp only[hml,if_true];exact .sl (x:=false) hi'
          ·simp only[hml,if_false,a3];exact .sl (x:=false) hi'
        ·cases hv
       ·cases hv
      ·cases hv
     ·cases hv
    ·
     rename_i el es by_ b off len cap ext hk
     rw[hk]at hd
     obtain⟨rfl,rfl,_,hkn⟩:=hd
     cases h1 with
     |@sl _ _ _ _ bb ee _ hi'=>
     split at hv
     ·rename_i m hm
      split at hv
      ·rename_i h hh
       split at hv
       ·rename_i l hl
        split at hv
        ·rename_i hc
         have hb:=a5 (E:=E) rm rh rl (cap:=if ext=true then cap+ee else cap) true hm hh hl hc.1 hc.2.1 hc.2.2.1 (by split<;>omega) hc.2.2.2 w
         split at hv
         ·rename_i hx'
          have hext:ext=true:=by cases ext<;>simp_all
          have hnone:amx.isSome=false:=by cases amx<;>simp_all
          have hmc:m=cap:=by
           cases amx with
           |none=>simpa[am]using hm.symm
           |some _=>simp at hnone
          subst hext
          simp only[hnone,Bool.false_eq_true,if_false,if_true]at hb
          split at hv
          ·rename_i hlc
           cases hv
           have hhl:h - l=0:=by omega
           refine .of_still hR ⟨.slice (F (if cap+ee=l then⟨bb,off,H⟩else(⟨bb,off,H⟩:Addr).add (l*E.P.cellsOf el))) (h - l) (cap+ee - l),?_,?_⟩
           ·simp[Instr.sliceAt,Instr.slice,hu,hb,ab hkn]
            split<;>rfl
           ·rw[hhl];exact .nes _ _
          ·rename_i hlc
           cases hv
           have hne:¬(cap+ee=l/\l≠0):=by omega
           refine .of_still hR ⟨.slice (F ⟨bb,off+l*E.P.cellsOf el,H⟩) (h - l) (cap+ee - l),?_,?_⟩
           ·simp[Instr.sliceAt,Instr.slice,hu,hb,ab hkn,a3]
            by_cases hl0:cap+ee=l
            ·have:l=0:=by omega
             subst this
             simp[hl0]
            ·simp[hl0]
           ·have:cap+ee - l=(if true=true then(m - l)+ee else m - l):=by simp;omega
            rw[this]
            exact .sl hi'
         ·rename_i hx'
          cases hv
          have hmm:(if amx.isSome=true then m else if ext=true then cap+ee else cap)=m:=by
           cases amx with
           |none=>
            have:m=cap:=by simpa[am]using hm.symm
            cases ext<;>simp_all
           |some _=>rfl
          rw[hmm]at hb
          refine .of_still hR ⟨.slice (F (if m=l then⟨bb,off,H⟩else(⟨bb,off,H⟩:Addr).add (l*E.P.cellsOf el))) (h - l) (m - l),?_,?_⟩
          ·simp[Instr.sliceAt,Instr.slice,hu,hb,ab hkn]
           split<;>rfl
          ·by_cases hml:m=l
           ·simp only[hml,if_true];exact .sl (x:=false) hi'
           ·simp only[hml,if_false,a3];exact .sl (x:=false) hi'
        ·cases hv
       ·cases hv
      ·cases hv
     ·cases hv
    ·
     rename_i el es by_ hk
     rw[hk]at hd
     obtain⟨rfl,rfl,_,hkn⟩:=hd
     cases h1 with
     |nes ad c=>
     split at hv
     ·rename_i hm hh hl
      split at hv
      ·cases hv
      ·rename_i hns
       cases hv
       have hnone:amx.isSome=false:=by simpa using hns
       have hb:=a5 (E:=E) rm rh rl (cap:=c) (capA:=0) true hm hh hl (Nat.le_refl _) (Nat.le_refl _) (Nat.le_refl _) (Nat.zero_le _) (by simp[hnone]) w
       simp only[hnone,Bool.false_eq_true,if_false]at hb
       refine .of_still hR ⟨.slice (F (if c=0 then ad else ad.add 0)) 0 c,?_, .nes _ _⟩
       simp[Instr.sliceAt,Instr.slice,hu,hb,ab hkn]
       split<;>rfl
     ·cases hv
    ·
     rename_i el es by_ hk
     rw[hk]at hd
     obtain⟨rfl,rfl,_,hkn⟩:=hd
     cases h1
     split at hv
     ·rename_i hm hh hl
      split at hv
      ·cases hv
      ·rename_i hns
       cases hv
       have hmh:amx.isSome=true->ahi.isSome=true:=by
        intro h
        cases ahi with
        |none=>simp[h]at hns
        |some _=>rfl
       have hb:=a5 (E:=E) rm rh rl (cap:=0) (capA:=0) true hm hh hl (Nat.le_refl _) (Nat.le_refl _) (Nat.le_refl _) (Nat.zero_le _) hmh w
       have h00:(if amx.isSome=true then 0 else 0)=0:=by split<;>rfl
       rw[h00]at hb
       refine .of_still hR ⟨.slice H 0 0,?_, .val _⟩
       simp[Instr.sliceAt,Instr.slice,hu,hb,ab hkn]
     ·cases hv
    ·cases hv
   ·cases hv
  ·trivial
end
end
section
section
variable {E:Env} {G:aD} {ρ:aj} {st:St} {w:aa} {T:Tr AV} {a:Act} {o:Z}
theorem hI {x:AV} {y:N} (h:VR ρ x y) {n:Nat} (hn:c5 x=F n) (w:aa):(Builtin.lenOf y).run E.P w= .ok n w:=by
 unfold c5 at hn
 split at hn<;>cases hn<;>cases h<;>rfl
theorem fw (hR:Rel E G ρ st w.heap) {i b e ofs n:Nat} (hi:ρ i=F (b,e)) {cs:List AV} (h:aA st i ofs n=F cs):
  ∃vs,(∀w':aa,w'.heap=w.heap->(Go.loadCells ⟨b,ofs,H⟩ n).run E.P w'= .ok ⟨vs⟩ w')/\VRs ρ cs vs/\vs.length=n:=by
 obtain⟨vs,h1,h2,h3⟩:=bu hR hi h
 refine⟨vs,λw' hw=>?_,h2,h3⟩
 obtain⟨vs',h1',_,_⟩:=bu (w:=w') (by rw[hw];exact hR) hi h
 have hcell:∀ad,w'.cell? ad=w.cell? ad:=λad=>by simp[aa.cell?,hw]
 unfold aA at h
 split at h
 ·rename_i all el x hg
  obtain⟨us,rest,fr,g1,g2,g3,g4,g5⟩:=a7 hR hi hg
  dsimp only at h
  split at h
  ·rename_i hl
   have hlen:((us++rest).drop ofs |>.take n).length=n:=by
    have:=((g2.drop ofs).take n).length
    rw[hl]at this
    simp at this⊢
    omega
   have r1:=bO (P:=E.P) w b ofs n g1 hlen
   have r2:=bO (P:=E.P) w' b ofs n (by rw[hw];exact g1) hlen
   rw[h1]at r1
   injection r1 with r1 _
   rw[r1]
   exact r2
  ·cases h
 ·cases h
theorem bN (hR:Rel E G ρ st w.heap) {x:AV} {y:N} (h:VR ρ x y) {es n:Nat} (hnes:x= .nes->n=0) {cs:List AV} (hc:aL st es n x=F cs):
  ∃vs,(∀w':aa,w'.heap=w.heap->(Builtin.firstCells es n y).run E.P w'= .ok ⟨vs⟩ w')/\VRs ρ cs vs:=by
 unfold aL at hc
 split at hc
 ·cases h with
  |sl hi=>
  split at hc
  ·rename_i h0
   cases hc
   exact⟨[],λw' _=>by simp[Builtin.firstCells,h0,Go.loadCells,loadCellsFrom], .nil⟩
  ·rename_i k
   obtain⟨vs,h1,h2,h3⟩:=fw hR hi hc
   exact⟨vs,λw' hw=>by simpa[Builtin.firstCells]using h1 w' hw,h2⟩
 ·cases hc;cases h;exact⟨[],λ_ _=>rfl, .nil⟩
 ·cases hc;cases h
  have:=hnes rfl
  subst this
  exact⟨[],λ_ _=>by simp[Builtin.firstCells,Go.loadCells,loadCellsFrom], .nil⟩
 ·rename_i b
  cases hc;cases h
  have hval:∀l:List UInt8,VRs ρ (l.map λx=>AV.val (.int .u8 x.toNat)) (l.map λx=>N.int .u8 x.toNat):=by
   intro l
   induction l with
   |nil=>exact .nil
   |cons x l ih=>exact .cons (.val _) ih
  refine⟨((b.data.toList.take n).map λx=>N.int .u8 x.toNat),λw' _=>?_,by rw[ct];exact hval _⟩
  simp only[Builtin.firstCells,O]
  congr 1
  apply Array.ext'
  simp
 ·cases hc
theorem fA (hR:Rel E G ρ st w.heap) {x:AV} {y:N} (h:VR ρ x y) {es n:Nat} (hnes:x= .nes->n=0) {cs:List AV} (hc:aL st es n x=F cs):
  ∃vs,(Builtin.firstCells es n y).run E.P w= .ok ⟨vs⟩ w/\VRs ρ cs vs:=by
 obtain⟨vs,h1,h2⟩:=bN hR h hnes hc
 exact⟨vs,h1 w rfl,h2⟩
theorem ez {es len b cap:Nat} {x xx:Bool} {old cs:List AV} {el:S} (h:aL st es len (.sl b 0 len cap x)=F old) (hg:st.h.get b=F (.cells cs el xx)):old=cD (len*es) cs/\old.length=len*es:=by
 simp only[aL]at h
 split at h
 ·rename_i h0;cases h;rw[h0];exact⟨rfl,rfl⟩
 ·rename_i k hk
  unfold aA at h
  rw[hg]at h
  dsimp only at h
  split at h
  ·rename_i hl
   cases h
   have:∀n,n=len*es->(n=0->False)->cD n (dv 0 cs)=cD (len*es) cs:=by
    intro n hn _;rw[hn];simp[dv]
   exact⟨by simp[dv],hl⟩
  ·cases h
theorem fU (n:Nat):∀(r c:Nat),c<=2*n+192->Builtin.growBy n r c<=2*n+192
 |0,c,h=>h
 |r+1,c,h=>by
  unfold Builtin.growBy
  split
  ·exact h
  ·apply fU n r
   omega
theorem i5 {n c:Nat} (h:c<n):Builtin.nextslicecap n c<=n*4+4096:=by
 unfold Builtin.nextslicecap
 split
 ·omega
 ·split
  ·omega
  ·have:=fU n 4 c (by omega);omega
theorem ir.noInt {P:Program} {d:TypeDesc} {k:TK} (h:ir P d k) (hns:∀q,k≠ .sc q):(match d with| .int _=>true|_=>false)=false:=by
 cases k<;>simp only[ir]at h
 ·exact absurd rfl (hns _)
 ·obtain⟨_,rfl,_⟩:=h;rfl
 ·obtain⟨_,_,_,rfl⟩:=h;rfl
 ·obtain⟨_,rfl,_⟩:=h;rfl
 ·obtain⟨_,rfl,_⟩:=h;rfl
 ·obtain⟨rfl,_⟩:=h;rfl
 ·obtain⟨_,rfl⟩:=h;rfl
 ·subst h;rfl
 ·subst h;rfl
 ·cases d<;>first|rfl|exact h.elim
theorem ef {t u:S} {ty:S} {el:S} {ti tu te:TI} (hOK:EOK E) (hti:E.ty t=F ti) (htu:E.ty u=F tu) (hk:∃bytes,ti.k= .slice el te.size bytes/\bytes=E.P.bytesOf el) (hte:E.ty el=F te)
  (hns:∀k,tu.k≠ .sc k) {base:Option Addr} {len cap n:Nat} {y:N} {old new:List N} (hl:(Builtin.lenOf y).run E.P w= .ok n w) (hcap:cap<len+n)
  (hb:((len+n)*4+4096)*E.P.bytesOf el<=2 ^ 48/\len+n<=2 ^ 48) (hold:∀w':aa,w'.heap=w.heap->(Builtin.firstCells te.size len (.slice base len cap)).run E.P w'= .ok ⟨old⟩ w')
  (hnew:∀w':aa,w'.heap=w.heap->(Builtin.firstCells te.size n y).run E.P w'= .ok ⟨new⟩ w'):
  ∃w' rest nc,(Builtin.append_ #[t,u] ty #[.slice base len cap,y]).run E.P w= .ok (.slice (F ⟨w.heap.size,0,H⟩) (len+n) nc) w'/\w'.heap=w.heap.push (.cells ⟨old++new++rest⟩ el)/\Same w w'/\
   len+n<=nc/\rest.length=(nc - (len+n))*te.size:=by
 obtain⟨d,hd,hu⟩:=(hOK.ty _ _ hti).run_underlying
 obtain⟨bytes,hk,hbytes⟩:=hk
 rw[hk]at hd
 obtain⟨rfl,hes,_,hkn⟩:=hd
 obtain⟨du,hdu,huu⟩:=(hOK.ty _ _ htu).run_underlying
 have hzs:=ir.noInt hdu hns
 have hel:=hOK.ty _ _ hte
 obtain⟨d',info,z',i1,i2,i3,i4,_⟩:=hel.ex
 have hty:∀w,(typeInfo el).run E.P w= .ok info w:=λw=>by simp[typeInfo,i2]
 have hbi:E.P.bytesOf el=info.bytes:=by simp[Program.bytesOf,i2]
 rw[hbi]at hb
 obtain⟨hb1,hb2⟩:=hb
 have hfit:¬(len+n<=cap):=by omega
 have hnx:¬(Builtin.nextslicecap (len+n) cap*info.bytes>2 ^ 48):=by
  have:=i5 hcap
  have:=Nat.mul_le_mul_right info.bytes this
  omega
 have hbig:¬(((len+n:Nat):Int)>IntKind.i64.max/\((false=true)\/info.bytes=0)):=by
  intro h
  have h1:=h.1
  have:IntKind.i64.max=9223372036854775807:=by decide
  rw[this]at h1
  have:(2:Nat) ^ 48<9223372036854775807:=by decide
  omega
 let w1:aa:={w with drawn:=w.drawn+1}
 let nc:=(Question.appendCap (len+n) cap el).cut (w.tape w.drawn (.appendCap (len+n) cap el))
 have hnc:len+n<=nc:=by
  show len+n<=(len+n)+_
  exact Nat.le_add_right _ _
 obtain⟨z,hz,hzv,hzsz,_⟩:=hel.zero_run w1
 have hsz:=ab hkn
 rw[hel.size]at hsz
 have hch:(choose (.appendCap (len+n) cap el)).run E.P w= .ok nc w1:=by
  simp[Question.forced]
  exact⟨rfl,rfl⟩
 refine⟨{w1 with heap:=w1.heap.push (.cells ⟨old++new++(Builtin.zeroCells z.cells (nc - (len+n))).toList⟩ el)},(Builtin.zeroCells z.cells (nc - (len+n))).toList,nc,?_,rfl,⟨rfl,rfl,rfl⟩,hnc,?_⟩
 ·have hmu:(underlying u).run E.P w= .ok du w:=huu w
  have hlist:((⟨old⟩:Array N)++⟨new⟩++Builtin.zeroCells z.cells (nc - (len+n)))=⟨old++new++(Builtin.zeroCells z.cells (nc - (len+n))).toList⟩:=by
   apply Array.ext';simp
  unfold Builtin.append_
  simp only[List.getElem?_toArray,List.getElem?_cons_zero,List.getElem?_cons_succ,J,hu,I,hsz,hmu,O]
  cases du<;>first
   |(cases hzs;done)
   |(simp only[Bool.false_eq_true,if_false,J,hl,I,hfit,Sem.run_ite,hty,false_or]
     rw[if_neg (by intro h;exact hbig ⟨h.1, .inr h.2⟩)]
     simp only[J,hty,I,Sem.run_ite,hnx,if_false,hch,run_askRoom,hold w1 rfl,Bool.not_false,if_true,hnew w1 rfl,hz,newRow,run_newObj,O]
     rw[hlist])
 ·simp[Builtin.zeroCells,hzsz]
theorem eb {t u:S} {ty:S} {el:S} {es bytes:Nat} {ti tu:TI} (hOK:EOK E) (hti:E.ty t=F ti) (htu:E.ty u=F tu) (hk:ti.k= .slice el es bytes)
  (hns:∀k,tu.k≠ .sc k) {b off:Nat} {len cap n:Nat} {y:N} {new:List N} (hl:(Builtin.lenOf y).run E.P w= .ok n w) (hcap:len+n<=cap)
  (hnew:(Builtin.firstCells es n y).run E.P w= .ok ⟨new⟩ w) {w':aa} (hs:(Go.storeCells ⟨b,off+len*es,H⟩ new).run E.P w= .ok () w'):
  (Builtin.append_ #[t,u] ty #[.slice (F ⟨b,off,H⟩) len cap,y]).run E.P w= .ok (.slice (F ⟨b,off,H⟩) (len+n) cap) w':=by
 obtain⟨d,hd,hu⟩:=(hOK.ty _ _ hti).run_underlying
 rw[hk]at hd
 obtain⟨rfl,rfl,_,hkn⟩:=hd
 obtain⟨du,hdu,huu⟩:=(hOK.ty _ _ htu).run_underlying
 have hzs:=ir.noInt hdu hns
 have hmu:(underlying u).run E.P w= .ok du w:=huu w
 unfold Builtin.append_
 simp only[List.getElem?_toArray,List.getElem?_cons_zero,List.getElem?_cons_succ,J,hu,I,ab hkn,hmu,O]
 cases du<;>first
  |(cases hzs;done)
  |(simp only[Bool.false_eq_true,if_false,J,hl,I,hcap,if_true,Bool.not_false,hnew,a3,hs,O])
theorem ik {t u:S} {ty:S} {el:S} {es bytes:Nat} {ti tu:TI} (hOK:EOK E) (hti:E.ty t=F ti) (htu:E.ty u=F tu) (hk:ti.k= .slice el es bytes)
  (hns:∀k,tu.k≠ .sc k) {y:N} {new:List N} (hl:(Builtin.lenOf y).run E.P w= .ok 0 w) (hnew:(Builtin.firstCells es 0 y).run E.P w= .ok ⟨new⟩ w):
  (Builtin.append_ #[t,u] ty #[.slice H 0 0,y]).run E.P w= .ok (.slice H 0 0) w:=by
 obtain⟨d,hd,hu⟩:=(hOK.ty _ _ hti).run_underlying
 rw[hk]at hd
 obtain⟨rfl,rfl,_,hkn⟩:=hd
 obtain⟨du,hdu,huu⟩:=(hOK.ty _ _ htu).run_underlying
 have hzs:=ir.noInt hdu hns
 have hmu:(underlying u).run E.P w= .ok du w:=huu w
 unfold Builtin.append_
 simp only[List.getElem?_toArray,List.getElem?_cons_zero,List.getElem?_cons_succ,J,hu,I,ab hkn,hmu,O]
 cases du<;>first
  |(cases hzs;done)
  |(simp only[Bool.false_eq_true,if_false,J,hl,I,if_true,Bool.not_false,hnew,O,Nat.add_zero,Nat.le_refl])
theorem Rel.move (hR:Rel E G ρ st w.heap) {i b e e':Nat} {ob ob':AObj} {o':Obj} (hi:st.h.get i=F ob) (hr:ρ i=F (b,e)) {w':aa} (hs:w'.heap.size=w.heap.size) (hk:∀c,c≠b->w'.heap[c]?=w.heap[c]?)
  (hb:w'.heap[b]?=F o') (ho:OR E G ρ e' ob' o') (hsame:Same w w'):
  Mv E G ρ st w (aK ρ st.n b e') ((st.upd i H).new ob') w':=by
 obtain⟨k1,k2⟩:=hR.kill hr
 have hfree:∀j e'',cc (st.upd i H) j->ρ j≠F (b,e''):=by
  rintro j e'' ⟨x,hx⟩ hj
  rcases Tr.put_some (hx:(st.h.put bits i H).get j=F x)with⟨_,h2⟩|⟨hne,hx'⟩
  ·cases h2
  ·exact hne (hR.inj j i b e'' e ⟨x,hx'⟩ ⟨ob,hi⟩ hj hr)
 obtain⟨n1,_⟩:=k1.new (h':=w'.heap) (o:=ob') (b:=b) (e:=e') (ob:=o') (by rw[hs];exact Nat.le_refl _) (λc hc _=>hk c hc) hb ho hfree
 have hn:ρ st.n=H:=(hR.fresh st.n (Nat.le_refl _)).1
 have hget:∀j x,((st.upd i H).new ob').h.get j=F x->j=st.n\/(j≠i/\j≠st.n/\st.h.get j=F x):=by
  intro j x hx
  rcases cn hx with⟨h1,_⟩|⟨h1,h2⟩
  ·exact .inl h1
  ·rcases Tr.put_some (h2:(st.h.put bits i H).get j=F x)with⟨_,h3⟩|⟨h3,h4⟩
   ·cases h3
   ·exact .inr ⟨h3,h1,h4⟩
 refine⟨n1,⟨cK hn,?_,?_,Nat.le_succ _,by rw[hs];exact Nat.le_refl _,?_,?_⟩,hsame,rfl⟩
 ·intro j hj hr'
  have:j≠st.n:=by omega
  simpa[aK,this]using hr'
 ·intro j hj hr'
  have h1:j≠i:=λhe=>by subst he;rw[hr]at hr';cases hr'
  have h2:j≠st.n:=by omega
  show((st.h.put bits i H).put bits st.n (F ob')).get j=_
  rw[Tr.get_put_ne _ _ _ _ _ h2,Tr.get_put_ne _ _ _ _ _ h1]
 ·intro c hc hn'
  exact hk c (λhcb=>hn' i e ⟨ob,hi⟩ (hcb▸hr))
 ·rintro j c e'' ⟨x,hx⟩ hj
  rcases hget j x hx with rfl|⟨h1,h2,h3⟩
  ·have:(aK ρ st.n b e') st.n=F (b,e'):=ae _ _ _ _
   rw[this]at hj
   injection hj with hj
   injection hj with hj _
   subst hj
   exact .inr ⟨i,e,⟨ob,hi⟩,hr⟩
  ·exact .inr ⟨j,e'',⟨x,h3⟩,by simpa[aK,h2]using hj⟩
theorem VR.slExt {i off l c b nc e:Nat} (h:ρ i=F (b,e)) (hc:nc=c+e):VR ρ (.sl i off l c true) (.slice (F ⟨b,off,H⟩) l nc):=by
 subst hc;exact .sl (x:=true) h
theorem dn (hR:Rel E G ρ st w.heap) {el:S} {te:TI} (hte:E.ty el=F te) {cs:List AV} {vs rest:List N} (h:VRs ρ cs vs) {w':aa} (hw:w'.heap=w.heap.push (.cells ⟨vs++rest⟩ el)) (hs:Same w w') {e:Nat} (hr:rest.length=e*te.size):
  Mv E G ρ st w (aK ρ st.n w.heap.size e) (st.new (.cells cs el true)) w':=
 Mv.new hR hw hs (.cells vs rest (0,0) h (d5 _) (λh=>by cases h) (λti hti=>by rw[hte]at hti;cases hti;exact hr))
theorem io (hOK:EOK E) (hR:Rel E G ρ st w.heap) {t u ty:S} {tu:TI} (htu:E.ty u=F tu) (hns:∀k,tu.k≠ .sc k) {x y:AV} {x' y':N} (hx:VR ρ x x') (hy:VR ρ y y') {v:AV} {st':St}
  (h:gm E t x y st=F (v,st')):∃z w' ρ',(Builtin.append_ #[t,u] ty #[x',y']).run E.P w= .ok z w'/\VR ρ' v z/\Mv E G ρ st w ρ' st' w':=by
 unfold gm at h
 split at h
 ·rename_i ti n hti hn
  have hl:=hI (E:=E) hy hn w
  have hnes:y= .nes->n=0:=by
   intro he;subst he;simpa[c5]using hn.symm
  split at h
  ·rename_i el es bytes hk
   split at h
   ·cases h
   ·cases h
   ·rename_i te new hte hnew
    obtain⟨vs,hv1,hv2⟩:=bN hR hy hnes hnew
    have hel:=hOK.ty _ _ hte
    obtain⟨d,hd,_⟩:=(hOK.ty _ _ hti).run_underlying
    rw[hk]at hd
    obtain⟨_,hes,hbt,hkn⟩:=hd
    rw[hel.size]at hes
    subst hes
    subst hbt
    split at h
    ·rename_i b off len cap xt
     cases hx with
     |@sl _ _ _ _ bb ee _ hi=>
     split at h
     ·rename_i hfit
      split at h
      ·rename_i s hs
       cases h
       obtain⟨w',h1,h2⟩:=bU hR hi hv2 hs
       refine⟨_,w',ρ,eb hOK hti htu hk hns hl (by split<;>omega) (hv1 w rfl) h1,?_,h2⟩
       exact .sl hi
      ·cases h
     ·rename_i hfit
      split at h
      ·rename_i cs el' xx hg
       split at h
       ·rename_i hb
        split at h
        ·cases h
        ·rename_i old hold
         obtain⟨os,hos1,hos2⟩:=bN hR (VR.sl (o:=off) (l:=len) (c:=cap) (x:=xt) hi) (λh=>by cases h) hold
         have grow:(if xt=true then cap+ee else cap)<len+n->∃w' rest nc,(Builtin.append_ #[t,u] ty #[.slice (F ⟨bb,off,H⟩) len (if xt=true then cap+ee else cap),y']).run E.P w= .ok (.slice (F ⟨w.heap.size,0,H⟩) (len+n) nc) w'/\
           w'.heap=w.heap.push (.cells ⟨os++vs++rest⟩ el)/\Same w w'/\len+n<=nc/\rest.length=(nc - (len+n))*te.size:=λhc=>
          ef hOK hti htu ⟨_,hk,rfl⟩ hte hns hl hc hb hos1 hv1
         split at h
         ·rename_i hxt
          subst hxt
          simp only[if_true]at grow hos1⊢
          split at h
          ·rename_i hcond
           obtain⟨rfl,hcl,rfl,hnl,hall⟩:=hcond
           cases h
           by_cases hroom:len+n<=cap+ee
           ·obtain⟨ws,rest,fr,g1,g2,g3,g4,g5⟩:=a7 hR hi hg
            have hrest:=g5 te hte
            have hwl:ws.length=cap*te.size:=by rw[<-g2.length,hcl]
            obtain⟨ho1,ho2⟩:=ez hold hg
            have hvl:vs.length=n*te.size:=by rw[<-hv2.length,hnl]
            have htot:(ws++rest).length=(cap+ee)*te.size:=by simp[hwl,hrest,Nat.add_mul]
            have hle:len*te.size+n*te.size<=(cap+ee)*te.size:=by rw[<-Nat.add_mul];exact Nat.mul_le_mul_right _ hroom
            obtain⟨w',r1,r2,r3,r4,r5⟩:=bL (P:=E.P) bb (0+len*te.size) el' fr vs (ws++rest) 0 w g1 (by simpa using g3) (by rw[htot,hvl];omega) (hv2.cellsV hall)
            have holdlen:len*te.size<=ws.length:=by
             have:old.length<=cs.length:=by rw[ho1,ct];simp;omega
             rw[ho2,g2.length]at this;exact this
            have hcont:VRs ρ (old++new) (ws.take (len*te.size)++vs):=by
             rw[ho1];exact(g2.take _).append hv2
            have hlist:(ws++rest).take (0+len*te.size+0)++vs++(ws++rest).drop (0+len*te.size+0+vs.length)=(ws.take (len*te.size)++vs)++(ws++rest).drop (len*te.size+vs.length):=by
             simp
             rw[List.take_append_of_le_length holdlen]
            rw[hlist]at r2
            have hr2:((ws++rest).drop (len*te.size+vs.length)).length=(cap+ee - (len+n))*te.size:=by
             rw[List.length_drop,htot,hvl,<-Nat.add_mul,<-Nat.sub_mul]
            have hmv:=hR.move (ob':= .cells (old++new) el' true) hg hi r3 r4 r2 (.cells _ _ fr hcont (by
             have e1:(ws.take (len*te.size)).length=len*te.size:=by simp;omega
             have e2:ws.length+rest.length=(cap+ee)*te.size:=by simpa using htot
             have:(ws.take (len*te.size)++vs).length+((ws++rest).drop (len*te.size+vs.length)).length=ws.length+rest.length:=by
              rw[List.length_append,e1,List.length_drop,List.length_append,hvl];omega
             rw[this];exact g3) (λh=>by cases h) (λti' hti'=>by rw[hte]at hti';cases hti';exact hr2)) r5
            refine⟨_,w',_,eb hOK hti htu hk hns hl hroom (hv1 w rfl) r1,?_,hmv⟩
            exact .slExt (ae _ _ _ _) (by omega)
           ·obtain⟨w',rest,nc,r1,r2,r3,r4,r5⟩:=grow (by omega)
            obtain⟨k1,k2⟩:=hR.kill hi
            have hmv:=(Mv.mk (w':=w) k1 k2 (Same.refl w) rfl).trans (dn k1 hte (hos2.append hv2) r2 r3 r5)
            refine⟨_,w',_,r1,?_,hmv⟩
            exact .slExt (ae _ _ _ _) (by omega)
          ·cases h
         ·rename_i hxt
          cases h
          have hxf:xt=false:=by simpa using hxt
          subst hxf
          obtain⟨w',rest,nc,r1,r2,r3,r4,r5⟩:=grow (by simp;omega)
          refine⟨_,w',_,r1,?_,dn hR hte (hos2.append hv2) r2 r3 r5⟩
          exact .slExt (ae _ _ _ _) (by omega)
       ·cases h
      ·cases h
    ·cases hx
     split at h
     ·cases h
      exact⟨_,w,ρ,ik hOK hti htu hk hns hl (hv1 w rfl), .val _,Mv.refl hR⟩
     ·rename_i hn0
      split at h
      ·rename_i hb
       cases h
       obtain⟨w',rest,nc,r1,r2,r3,r4,r5⟩:=ef (ty:=ty) (base:=H) (len:=0) (cap:=0) (old:=[]) hOK hti htu ⟨_,hk,rfl⟩ hte hns hl (by rcases n with _|n;exact absurd rfl hn0;omega) (by simpa using hb) (λ_ _=>rfl) hv1
       simp at r1 r2 r4 r5
       refine⟨_,w',_,r1,?_,dn hR hte hv2 r2 r3 r5⟩
       exact .slExt (ae _ _ _ _) (by omega)
      ·cases h
    ·cases h
  ·cases h
 ·cases h
end
end
section
section
variable {E:Env} {G:aD} {ρ:aj} {st:St} {w:aa} {T:Tr AV} {a:Act} {o:Z}
theorem kr (hOK:EOK E) (hR:Rel E G ρ st w.heap) {t ty:S} {ts:List S} {x y:AV} {x' y':N} (hx:VR ρ x x') (hy:VR ρ y y') {n:Nat} {st':St}
  (h:j9 E t x y st=F (n,st')):∃w',(Builtin.copy_ ⟨t :: ts⟩ ty #[x',y']).run E.P w= .ok (.int .i64 n) w'/\Mv E G ρ st w ρ st' w':=by
 unfold j9 at h
 split at h
 ·rename_i ti d l hti hd hl
  obtain⟨dd,hdd,hu⟩:=(hOK.ty _ _ hti).run_underlying
  have hly:=hI (E:=E) hy hl w
  split at h
  ·rename_i el es by_ hk
   rw[hk]at hdd
   obtain⟨rfl,rfl,_,hkn⟩:=hdd
   have hnes:y= .nes->Nat.min l d=0:=by
    intro he;subst he
    have:l=0:=by simpa[c5]using hl.symm
    subst this;exact Nat.zero_min d
   dsimp only at h
   split at h
   ·rename_i cs hcs
    obtain⟨vs,hv1,hv2⟩:=fA hR hy hnes hcs
    have run:∀(base:Option Addr) (cap:Nat) (w':aa),x'= .slice base d cap->(match base with|some a=>(Go.storeCells a vs).run E.P w|none=> .ok () w)= .ok () w'->
      (Builtin.copy_ ⟨t :: ts⟩ ty #[x',y']).run E.P w= .ok (.int .i64 (Nat.min l d)) w':=by
     intro base cap w' hb hs
     subst hb
     unfold Builtin.copy_
     cases base with
     |none=>
      injection hs with _ hs;subst hs
      simp[hu,hly,ab hkn,hv1,goInt]
     |some ad=>simp[hu,hly,ab hkn,hv1,hs,goInt]
    split at h
    ·cases hx with
     |sl hi=>
     split at h
     ·rename_i s hs
      cases h
      simp only[c5,Option.some.injEq]at hd
      subst hd
      obtain⟨w',r1,r2⟩:=bU hR hi hv2 hs
      exact⟨w',run _ _ w' rfl r1,r2⟩
     ·cases h
    ·split at h
     ·cases h
      cases hx with
      |nes ad c=>
      simp only[c5,Option.some.injEq]at hd
      subst hd
      cases hv2
      exact⟨w,run (F ad) c w rfl (by simp[Go.storeCells]),Mv.refl hR⟩
     ·cases h
    ·cases h
     cases hx
     simp only[c5,Option.some.injEq]at hd
     subst hd
     exact⟨w,run H _ w rfl rfl,Mv.refl hR⟩
    ·cases h
   ·cases h
  ·cases h
 ·cases h
theorem gM (hOK:EOK E) (hR:Rel E G ρ st w.heap) {t u ty:S} {tu:TI} {q:IntKind} (htu:E.ty u=F tu) (hsc:tu.k= .sc q) {x:AV} {x':N} {k:IntKind} {i:Int} (hi0:0<=i) (hx:VR ρ x x') {v:AV} {st':St}
  (h:eN E t x i.toNat st=F (v,st')):∃z w' ρ',(Builtin.append_ #[t,u] ty #[x', .int k i]).run E.P w= .ok z w'/\VR ρ' v z/\Mv E G ρ st w ρ' st' w':=by
 unfold eN at h
 split at h
 ·rename_i ti hti
  cases hx
  obtain⟨d,hd,hu⟩:=(hOK.ty _ _ hti).run_underlying
  obtain⟨du,hdu,huu⟩:=(hOK.ty _ _ htu).run_underlying
  rw[hsc]at hdu
  have hdu':du= .int q:=hdu
  subst hdu'
  have hmu:(underlying u).run E.P w= .ok (.int q) w:=huu w
  split at h
  ·rename_i el es bytes hk
   rw[hk]at hd
   obtain⟨rfl,rfl,rfl,hkn⟩:=hd
   obtain⟨inf,hinf⟩:=Option.isSome_iff_exists.1 (by unfold bC at hkn;simp at hkn;exact hkn.1)
   have hty:∀w,(typeInfo el).run E.P w= .ok inf w:=λw=>by simp[typeInfo,hinf]
   have hbi:E.P.bytesOf el=inf.bytes:=by simp[Program.bytesOf,hinf]
   split at h
   ·rename_i h0
    cases h
    have hi:i=0:=by omega
    subst hi
    refine⟨.slice H 0 0,w,ρ,?_, .val _,Mv.refl hR⟩
    have hw0:IntKind.i64.wrap 0=0:=a9 (by omega) (by omega)
    unfold Builtin.append_
    simp[hu,ab hkn,hmu,asInt,asIntOf,hw0,hty]
   ·rename_i hn0
    split at h
    ·rename_i te hte
     split at h
     ·rename_i hb
      cases h
      have hel:=hOK.ty _ _ hte
      obtain⟨hb1,hb2⟩:=hb
      have hipos:0<i.toNat:=by
       rcases Nat.eq_zero_or_pos i.toNat with h|h
       ·exact absurd h (by intro h;exact hn0 h)
       ·exact h
      have hwi:IntKind.i64.wrap i=i:=a9 hi0 (by omega)
      rw[hbi]at hb1
      have h40:(2:Nat) ^ 40<=2 ^ 48:=by decide
      have hib:¬(i*(inf.bytes:Int)>2 ^ 48):=by
       have h1:i.toNat*inf.bytes<=(i.toNat*4+4096)*inf.bytes:=Nat.mul_le_mul_right _ (by omega)
       have h2:((i.toNat*inf.bytes:Nat):Int)=i*inf.bytes:=by
        rw[Int.natCast_mul,Int.toNat_of_nonneg hi0]
       rw[<-h2]
       omega
      obtain⟨z,hz0,hzv,hzsz,_⟩:=hel.zero_run w
      have hzr:∀w,(zeroValue el).run E.P w= .ok z w:=by
       obtain⟨d',info,z',i1,i2,i3,i4,_⟩:=hel.ex
       intro w1
       have h1:(zeroValue el).run E.P w= .ok z' w:=by simp[zeroValue,typeInfo,i2,i4]
       rw[h1]at hz0
       injection hz0 with hz0 _
       subst hz0
       simp[zeroValue,typeInfo,i2,i4]
      have hrep:=ba (hzv ρ) i.toNat
      have hsz:=λw=>ab hkn w
      rw[hel.size]at hsz
      have hnx:¬(Builtin.nextslicecap (0+i.toNat) 0*inf.bytes>2 ^ 48):=by
       have:=i5 (n:=0+i.toNat) (c:=0) (by omega)
       have:=Nat.mul_le_mul_right inf.bytes this
       simp at this⊢
       omega
      have hbig:¬(((0+i.toNat:Nat):Int)>IntKind.i64.max):=by
       have:IntKind.i64.max=9223372036854775807:=by decide
       rw[this]
       have:(2:Nat) ^ 40<9223372036854775807:=by decide
       omega
      let nc:=(Question.appendCap (0+i.toNat) 0 el).cut (w.tape w.drawn (.appendCap (0+i.toNat) 0 el))
      have hnc:0+i.toNat<=nc:=Nat.le_add_right _ _
      have hch:(choose (.appendCap (0+i.toNat) 0 el)).run E.P w= .ok nc {w with drawn:=w.drawn+1}:=by
       rw[run_choose];rfl
      have hfit:¬(0+i.toNat<=0):=by omega
      have hneg:¬(i<0):=by omega
      have hzc:i.toNat*te.size=0->Builtin.zeroCells z.cells i.toNat=#[]:=by
       intro h0
       unfold Builtin.zeroCells
       rw[hzsz,h0]
       simp
      have hnl:(Builtin.zeroCells z.cells i.toNat).toList=(List.range (i.toNat*z.cells.toList.length)).map λj=>z.cells.toList[j % z.cells.toList.length]!:=by
       unfold Builtin.zeroCells
       rw[dm];simp
      have hlist:((#[]:Array N)++Builtin.zeroCells z.cells i.toNat++Builtin.zeroCells z.cells (nc - (0+i.toNat)))=⟨((List.range (i.toNat*z.cells.toList.length)).map λj=>z.cells.toList[j % z.cells.toList.length]!)++(Builtin.zeroCells z.cells (nc - (0+i.toNat))).toList⟩:=by
       apply Array.ext'
       rw[Array.toList_append,Array.toList_append,hnl];simp
      refine⟨.slice (F ⟨w.heap.size,0,H⟩) (0+i.toNat) nc,_,_,?_,?_,dn (w':={w with drawn:=w.drawn+1,heap:=w.heap.push (.cells ⟨((List.range (i.toNat*z.cells.toList.length)).map λj=>z.cells.toList[j % z.cells.toList.length]!)++(Builtin.zeroCells z.cells (nc - (0+i.toNat))).toList⟩ el)}) hR hte hrep rfl ⟨rfl,rfl,rfl⟩ (e:=nc - i.toNat) (by simp[Builtin.zeroCells,hzsz])⟩
      ·unfold Builtin.append_
       simp only[List.getElem?_toArray,List.getElem?_cons_zero,List.getElem?_cons_succ,J,hu,I,hsz,hmu,O,if_true,asInt,asIntOf,hwi,Sem.run_ite,hneg,if_false,hty,hib,hfit,
        hbig,false_and,hnx,hch,run_askRoom,Builtin.firstCells,Bool.not_true,Bool.false_eq_true,hzr,newRow,run_newObj]
       by_cases h0:i.toNat*te.size=0
       ·rw[hzc h0]at hlist
        rw[if_pos h0]
        simp only[I]
        rw[hlist]
       ·rw[if_neg h0]
        simp only[I]
        rw[hlist]
      ·rw[Nat.zero_add]
       exact .slExt (ae _ _ _ _) (by omega)
     ·cases h
    ·cases h
  ·cases h
 ·cases h
end
end
section
section
variable {E:Env} {G:aD} {ρ:aj} {st:St} {w:aa} {T:Tr AV} {a:Act} {o:Z}
theorem em (hOK:EOK E) (hR:Rel E G ρ st w.heap) (hE:ER ρ T a.tmps) (ho:ao E.P.globals.size o=true) {x:W} {xt t:S} {ok:Bool} (hop:o.op= .typeAssert x xt t ok) (hx:ac E.P.globals.size x=true):
  bl E G ρ st w ((execOp a.eval o).run E.P w) (aN E o T st x xt t ok):=by
 have hpure:=aS hR hE ho
 have h1:=VR.evalO hE (λi hi=>hR.glob i hi) hx
 unfold aN
 split
 ·rename_i u v hp
  rw[hp]at h1
  split
  ·rename_i ti hti
   obtain⟨d,hd,hu⟩:=(hOK.ty _ _ hti).run_underlying
   obtain⟨z,hz1,hz2,hz3,hz4⟩:=(hOK.ty _ _ hti).zero_run w
   split
   ·exact hpure
   ·rename_i hne
    simp only[execOp,hop]
    generalize a.eval x=y at h1
    cases h1 with
    |@ifc _ _ vv hv=>
    have hnd:∀ms,d≠ .interface ms:=by
     intro ms he
     subst he
     cases hk:ti.k<;>rw[hk]at hd<;>simp only[ir]at hd
     ·cases hd
     ·obtain⟨_,he,_⟩:=hd;cases he
     ·obtain⟨_,_,_,he⟩:=hd;cases he
     ·obtain⟨_,he,_⟩:=hd;cases he
     ·obtain⟨_,he,_⟩:=hd;cases he
     ·cases hd.1
     ·exact absurd hk hne
     ·cases hd
     ·cases hd
    have hm:∀(A:Array (String×S)->Sem N) (B C:Sem N),(match d,N.iface u vv with
      | .interface _, .nilIface=>B
      | .interface want, .iface _ _=>A want
      |_, .nilIface=>C
      |_, .iface t' v'=>if t'=t then pure (if ok then .tuple #[v', .bool true]else v')else B
      |_,_=>C)=(if u=t then pure (if ok then .tuple #[vv, .bool true]else vv)else B):=by
     intro A B C
     cases d<;>first|rfl|exact absurd rfl (hnd _)
    by_cases hut:u=t
    ·simp only[hut,if_true]
     subst hut
     have hrun:(Instr.typeAssert (.iface u vv) xt u ok).run E.P w= .ok (if ok then .tuple #[vv, .bool true]else vv) w:=by
      unfold Instr.typeAssert
      simp only[J,hu,I]
      cases d<;>first|(simp only[if_true];rfl)|exact absurd rfl (hnd _)
     refine .of_still hR ⟨_,hrun,?_⟩
     cases ok
     ·exact hv
     ·exact .tup (.cons hv (.cons (.bool true) .nil))
    ·simp only[hut,if_false]
     split
     ·rename_i hok
      subst hok
      have hrun:(Instr.typeAssert (.iface u vv) xt t true).run E.P w= .ok (.tuple #[z, .bool false]) w:=by
       unfold Instr.typeAssert
       simp only[J,hu,I]
       cases d<;>first|(simp only[hut,if_false,if_true,J,hz1,I];rfl)|exact absurd rfl (hnd _)
      exact .of_still hR ⟨_,hrun, .tup (.cons (hz4 ρ) (.cons (.bool false) .nil))⟩
     ·trivial
  ·trivial
 ·exact hpure
theorem eL {P:Program} (w:aa) (f:N->ByteArray->Sem (ForInStep ByteArray)) (hf:∀n s,f (.int .u8 n) s=pure (.yield (s.push (UInt8.ofNat n.toNat)))):∀(vs:List N) (b r:ByteArray),eY vs b=F r->
  (forIn vs b f).run P w= .ok r w
 |[],b,r,h=>by simp only[eY]at h;cases h;rfl
 |v :: vs,b,r,h=>by
  simp only[eY]at h
  split at h
  ·rename_i n
   simp only[List.forIn_cons,J,hf,O,I]
   exact eL w f hf vs _ r h
  ·cases h
theorem hT (h:Array Obj) (o:Obj) (f:Obj->Obj):(h.push o).modify h.size f=h.push (f o):=by
 apply Array.ext_getElem?
 intro j
 rw[Array.getElem?_modify,Array.getElem?_push,Array.getElem?_push]
 by_cases hj:h.size=j
 ·subst hj
  simp
 ·have:¬j=h.size:=λh=>hj h.symm
  simp[hj,this]
theorem TIOK.size1 {P:Program} {t:S} {ti:TI} (h:TIOK P t ti) (hf:av P t=false):ti.size=1:=by
 obtain⟨d,info,z,h1,h2,h3,h4,h5,h6,h7,h8⟩:=h.ex
 have hn:¬∃c,z= .agg c:=λhc=>by rw[h7.1 hc]at hf;cases hf
 have hc:z.cells=#[z]:=by
  cases z<;>first|rfl|exact absurd ⟨_,rfl⟩ hn
 rw[hc]at h6
 simpa using h6.symm
theorem fX (hOK:EOK E) (hR:Rel E G ρ st w.heap) (hE:ER ρ T a.tmps) (ho:ao E.P.globals.size o=true) {src dst:S} {x:W} (hop:o.op= .convert src dst x) (hx:ac E.P.globals.size x=true):
  bl E G ρ st w ((execOp a.eval o).run E.P w) (b6 E o T st src dst x):=by
 have hpure:=aS hR hE ho
 have h1:=VR.evalO hE (λi hi=>hR.glob i hi) hx
 unfold b6
 split
 ·rename_i b hp
  rw[hp]at h1
  split
  ·rename_i ti ts hti hts
   obtain⟨d,hd,hu⟩:=(hOK.ty _ _ hti).run_underlying
   obtain⟨ds,hds,hus⟩:=(hOK.ty _ _ hts).run_underlying
   split
   ·rename_i el es by_ hk
    rw[hk]at hd
    obtain⟨rfl,_,_,hkn⟩:=hd
    split
    ·rename_i te hte
     split
     ·rename_i htk
      have hel:=hOK.ty _ _ hte
      obtain⟨de,hde,hue⟩:=hel.run_underlying
      rw[htk]at hde
      have hde':de= .int .u8:=hde
      subst hde'
      simp only[execOp,hop]
      generalize a.eval x=y at h1
      cases h1
      have hval:∀l:List UInt8,VRs ρ (l.map λx=>AV.val (.int .u8 x.toNat)) (l.map λx=>N.int .u8 x.toNat):=by
       intro l
       induction l with
       |nil=>exact .nil
       |cons x l ih=>exact .cons (.val _) ih
      have hsz1:te.size=1:=hel.size1 (by rw[hel.agg,htk])
      let nc:=(Question.appendCap b.size 0 el).cut (w.tape w.drawn (.appendCap b.size 0 el))
      have hnc:b.size<=nc:=Nat.le_add_right _ _
      have hch:(choose (.appendCap b.size 0 el)).run E.P w= .ok nc {w with drawn:=w.drawn+1}:=by
       rw[run_choose];rfl
      let vs:=b.data.toList.map λx=>N.int .u8 x.toNat
      let rest:=List.replicate (nc - b.size) (N.int .u8 0)
      let ob:Obj:= .cells ⟨vs++rest⟩ el ((vs++rest).length,(vs++rest).length+1)
      let w':aa:={w with drawn:=w.drawn+1,heap:=w.heap.push ob}
      have hlist:((b.data.map λx=>(N.int .u8 x.toNat))++Array.replicate (nc - b.size) (N.int .u8 0):Array N)=⟨vs++rest⟩:=by
       apply Array.ext'
       simp[vs,rest]
      refine .of_value ⟨.slice (F ⟨w.heap.size,0,H⟩) b.size nc,w',aK ρ st.n w.heap.size (nc - b.size),?_, .slExt (ae _ _ _ _) (by omega:nc=b.size+(nc - b.size)),?_⟩
      ·simp only[convert,J,hus,I,hu,hue,Conv.stringToBytes,hch,newRow,run_newObj,O]
       rw[hlist]
       simp only[markStringish,J,run_shape,I,aa.shape?]
       have hg:(w.heap.push (.cells ⟨vs++rest⟩ el))[w.heap.size]?=F (.cells ⟨vs++rest⟩ el):=by simp
       simp only[hg,run_freeze,I,aa.freeze]
       rw[if_neg (by decide)]
       have e1:(⟨vs++rest⟩:Array N).size=(vs++rest).length:=rfl
       simp only[e1]
       rw[hT]
       rfl
      ·exact Mv.new hR (w':=w') (b:=ob) rfl ⟨rfl,rfl,rfl⟩ (.cells vs rest _ (hval _) (by
        intro off hoff h
        have:=h.1
        simp at this hoff
        omega) (λh=>by cases h) (λti' hti'=>by
         rw[hte]at hti';cases hti'
         rw[hsz1];simp[rest]))
     ·trivial
    ·trivial
   ·exact hpure
  ·trivial
 ·rename_i i off len cp xx hp
  rw[hp]at h1
  split
  ·rename_i td ts htd hts
   obtain⟨d,hd,hu⟩:=(hOK.ty _ _ htd).run_underlying
   obtain⟨ds,hds,hus⟩:=(hOK.ty _ _ hts).run_underlying
   split
   ·rename_i el es by_ hk hk'
    rw[hk]at hd
    rw[hk']at hds
    have hd':d= .string:=hd
    subst hd'
    obtain⟨rfl,_,_,hkn⟩:=hds
    split
    ·rename_i te cs hte hcs
     split
     ·rename_i vs htk hvs
      split
      ·rename_i b hb
       obtain⟨de,hde,hue⟩:=(hOK.ty _ _ hte).run_underlying
       rw[htk]at hde
       have hde':de= .int .u8:=hde
       subst hde'
       simp only[execOp,hop]
       generalize a.eval x=y at h1
       cases h1 with
       |sl hi=>
       obtain⟨us,hu1,hu2,hu3⟩:=bu hR hi hcs
       have:=hu2.toVals hvs
       subst this
       refine .of_still hR ⟨.string b,?_, .val _⟩
       simp only[convert,J,hus,I,hu,hue,Conv.bytesToString,hu1]
       rw[<-Array.forIn_toList]
       rw[eL w _ (λ_ _=>rfl) us .empty b hb]
       rfl
      ·trivial
     ·trivial
    ·trivial
   ·trivial
  ·trivial
 ·exact hpure
end
end
section
section
variable {E:Env} {G:aD} {ρ:aj} {st:St} {w:aa} {T:Tr AV} {a:Act} {o:Z}
theorem dw (hOK:EOK E) {f:FuncId} {fn:Func} {c:Code} (hf:E.fn f=F fn) (hb:fn.body=F c) (args:Array N) (w:aa):(callFunc f args).run E.P w= .ok (.enter f args) w:=by
 have h1:=hOK.fn _ _ hf
 have h2:=hOK.name _ _ hf
 simp only[callFunc,J,run_program,I,h1,h2,Bool.false_eq_true,if_false,hb,Option.isNone_some]
 rfl
theorem kg (hOK:EOK E) (hR:Rel E G ρ st w.heap) {r:Result Next} {fv:AV} {f:N} {args:List AV} {xs:List N} (hf:VR ρ fv f) (ha:VRs ρ args xs)
  (hr:r=(do let d<-Deferred.ofValue f ⟨xs⟩;invoke d.target d.args:Sem Next).run E.P w) (hpure:bl E G ρ st w r (ak E o T st)):bl E G ρ st w r (c6 E o fv args st T):=by
 have plain:∀(g:FuncId) (first cap:List N) (as:List AV),f= .func (.func g) ⟨first⟩ ⟨cap⟩->VRs ρ as (first++xs++cap)->bl E G ρ st w r (dk E o g as st T):=by
  intro g first cap as he hv
  subst he
  unfold dk
  split
  ·rename_i fn hfn
   split
   ·rename_i c hb
    refine⟨rfl,first++xs++cap,?_,hv⟩
    rw[hr]
    simp only[Deferred.ofValue,J,O,I,invoke]
    have:(⟨first⟩++⟨xs⟩++⟨cap⟩:Array N)=⟨first++xs++cap⟩:=by apply Array.ext';simp
    rw[this]
    exact dw hOK hfn hb _ w
   ·exact hpure
  ·trivial
 unfold c6
 split
 ·rename_i g
  cases hf
  exact plain g [] [] args rfl (by simpa using ha)
 ·cases hf with
  |fn h1 h2=>
  exact plain _ _ _ _ rfl ((h1.append ha).append h2)
 ·cases hf with
  |@yld _ b e h=>
  refine⟨b,e,xs,h,ha,?_⟩
  rw[hr]
  simp only[Deferred.ofValue,J,O,I,invoke]
  have:(#[]++⟨xs⟩:Array N)=⟨xs⟩:=by apply Array.ext';simp
  rw[this]
 ·trivial
theorem hU {f:FuncId} {as:List AV} {s':St}:ak E o T st≠ .enter f as s':=by
 unfold ak
 split
 ·split<;>simp
 ·simp
theorem d7 (hOK:EOK E) {fv:AV} {f:N} {args:List AV} {xs:List N} (hf:VR ρ fv f) (ha:VRs ρ args xs) {f':FuncId} {as:List AV} {s':St} (h:c6 E o fv args st T= .enter f' as s') (w:aa):
  s'=st/\∃ys,(do let d<-Deferred.ofValue f ⟨xs⟩;invoke d.target d.args:Sem Next).run E.P w= .ok (.enter f' ⟨ys⟩) w/\VRs ρ as ys:=by
 have plain:∀(g:FuncId) (first cap:List N) (as':List AV),f= .func (.func g) ⟨first⟩ ⟨cap⟩->VRs ρ as' (first++xs++cap)->dk E o g as' st T= .enter f' as s'->
   s'=st/\∃ys,(do let d<-Deferred.ofValue f ⟨xs⟩;invoke d.target d.args:Sem Next).run E.P w= .ok (.enter f' ⟨ys⟩) w/\VRs ρ as ys:=by
  intro g first cap as' he hv hc
  subst he
  unfold dk at hc
  split at hc
  ·rename_i fn hfn
   split at hc
   ·rename_i c hb
    cases hc
    refine⟨rfl,first++xs++cap,?_,hv⟩
    simp only[Deferred.ofValue,J,O,I,invoke]
    have:(⟨first⟩++⟨xs⟩++⟨cap⟩:Array N)=⟨first++xs++cap⟩:=by apply Array.ext';simp
    rw[this]
    exact dw hOK hfn hb _ w
   ·exact absurd hc hU
  ·cases hc
 unfold c6 at h
 split at h
 ·rename_i g
  cases hf
  exact plain g [] [] args rfl (by simpa using ha) h
 ·cases hf with
  |fn h1 h2=>exact plain _ _ _ _ rfl ((h1.append ha).append h2) h
 ·cases h
 ·cases h
theorem iT (hR:Rel E G ρ st w.heap) (hE:ER ρ T a.tmps) {c:Call} {ty:S} (hg:∀x∈c.operands,ac E.P.globals.size x=true):
  bl E G ρ st w ((do pure (.defer (<-resolve a.eval c ty)):Sem Next).run E.P w) (cm E o T st c):=by
 unfold cm
 split
 ·rename_i f hc
  have hf:ac E.P.globals.size f=true:=hg f (by simp[Call.operands,hc])
  have hargs:=VRs.evalL hR hE (xs:=c.args.toList) (λx hx=>hg x (by simp[Call.operands];exact .inr (by simpa using hx)))
  have h1:=VR.evalO hE (λi hi=>hR.glob i hi) hf
  have mk:∀fn first cap,a.eval f= .func fn first cap->(resolve a.eval c ty).run E.P w= .ok {target:= .fn fn cap,args:=first++c.args.map a.eval} w:=by
   intro fn first cap he
   simp[resolve,hc,he,Deferred.ofValue]
  have hm:(c.args.map a.eval)=⟨c.args.toList.map a.eval⟩:=by apply Array.ext';simp
  split
  ·rename_i g fa ca hp
   rw[hp]at h1
   generalize hz:a.eval f=z at h1
   cases h1 with
   |@fn _ _ _ vs ws h2 h3=>
   have:=mk _ _ _ hz
   exact⟨_,by simp[this];rfl,⟨_,_,_,_, .fn h2 h3,hargs,by rw[hm]⟩⟩
  ·rename_i g fa ca hp
   rw[hp]at h1
   generalize hz:a.eval f=z at h1
   cases h1
   have:=mk _ _ _ hz
   exact⟨_,by simp[this];rfl,⟨_,_,_,_, .val _,hargs,by rw[hm]⟩⟩
  ·trivial
 ·trivial
theorem kB (hR:Rel E G ρ st w.heap) {d:TypeDesc} {t:S} {k:TK} (hd:ir E.P d k) (hu:∀w,(underlying t).run E.P w= .ok d w) {x:AV} {y:N} (hx:VR ρ x y) {n:Nat} (h:ku k x st=F n) (ty:S):
  (Builtin.len_ #[t] ty #[y]).run E.P w= .ok (.int .i64 n) w:=by
 unfold ku at h
 split at h
 ·obtain⟨rfl,_⟩:=hd
  split at h
  ·cases h;cases hx with|sl hi=>simp[Builtin.len_,hu,goInt]
  ·cases h;cases hx;simp[Builtin.len_,hu,goInt]
  ·cases h
 ·have hd':d= .map _ _:=hd
  subst hd'
  split at h
  ·split at h
   ·rename_i es c hg
    cases h
    cases hx with|mp hi=>
    obtain⟨ob,h1,h2⟩:=hR.obj _ _ _ _ hg hi
    cases h2 with
    |map l hm=>
    have hlen:es.length=l.length:=by
     clear h1 hg
     induction es generalizing l with
     |nil=>cases l with|nil=>rfl|cons _ _=>exact hm.elim
     |cons e es ih=>cases l with|nil=>exact hm.elim|cons m ms=>simp[ih ms hm.2]
    simp[Builtin.len_,hu,getObj,Sem.run,h1,goInt,hlen]
   ·cases h
  ·cases h
 ·cases h
theorem ai {P:Program} {r:Nat} {ob:Obj} {w:aa} (h:w.heap[r]?=F ob) (hc:∀c e f,ob≠ .cells c e f):(getObj r).run P w= .ok ob w:=by
 unfold getObj
 simp only[Sem.run,h]
theorem jH (hOK:EOK E) (hR:Rel E G ρ st w.heap) (hE:ER ρ T a.tmps) (ho:ao E.P.globals.size o=true) {c:Call} (hop:o.op= .call c):
  bl E G ρ st w ((execOp a.eval o).run E.P w) (bV E o T st c):=by
 have hpure:=aS hR hE ho
 have hg:∀x∈c.operands,ac E.P.globals.size x=true:=λx hx=>cu ho (by rw[hop];exact hx)
 have hargs:∀x∈c.args.toList,ac E.P.globals.size x=true:=λx hx=>hg x (by simp[Call.operands];exact .inr (by simpa using hx))
 have hm:(c.args.map a.eval)=⟨c.args.toList.map a.eval⟩:=by apply Array.ext';simp
 have hev:∀x,x∈c.args.toList->VR ρ (V T x) (a.eval x):=λx hx=>VR.evalO hE (λi hi=>hR.glob i hi) (hargs x hx)
 unfold bV
 split
 ·rename_i b hb
  have hexec:∀(q:Builtin),b=q->(execOp a.eval o).run E.P w=(builtin q c.argTypes o.type (c.args.map λ| .const _=>true|_=>false) ⟨c.args.toList.map a.eval⟩).run E.P w:=by
   intro q hq
   subst hq
   simp only[execOp,hop,resolve,hb,J,O,I,invoke,hm]
   rfl
  split
  ·
   rename_i x t hxs hts
   split
   ·rename_i n hn
    rw[hexec _ rfl]
    have hta:c.argTypes=#[t]:=by apply Array.ext';simpa using hts
    unfold iA at hn
    split at hn
    ·rename_i ti hti
     obtain⟨d,hd,hu⟩:=(hOK.ty _ _ hti).run_underlying
     have:=kB (w:=w) hR hd hu (hev x (by simp[hxs])) hn o.type
     exact⟨_,w,ρ,by simp[builtin,hxs,hta,this], .num _,Mv.refl hR⟩
    ·cases hn
   ·exact hpure
  ·
   rename_i x t hxs hts
   have h1:=hev x (by simp[hxs])
   split
   ·rename_i i off l cp ex hp
    rw[hp]at h1
    split
    ·split
     ·rename_i ti hti
      obtain⟨d,hd,hu⟩:=(hOK.ty _ _ hti).run_underlying
      split
      ·rename_i el es by_ hk
       rw[hk]at hd
       obtain⟨rfl,_⟩:=hd
       have hta:c.argTypes=#[t]:=by apply Array.ext';simpa using hts
       rw[hexec _ rfl]
       generalize hz:a.eval x=z at h1
       cases h1 with
       |sl hi=>
       exact⟨_,w,ρ,by simp[builtin,hxs,hta,hz,Builtin.cap_,hu,goInt], .num _,Mv.refl hR⟩
      ·trivial
     ·trivial
    ·trivial
   ·exact hpure
  ·
   rename_i x y t u hxs hts
   have h1:=hev x (by simp[hxs])
   have h2:=hev y (by simp[hxs])
   have hta:c.argTypes=#[t,u]:=by apply Array.ext';simpa using hts
   have hbi:=hexec _ rfl
   simp only[hxs,List.map_cons,List.map_nil,hta]at hbi
   have hr:(execOp a.eval o).run E.P w=((Builtin.append_ #[t,u] o.type #[a.eval x,a.eval y]).run E.P w).andThen λv w'=> .ok (.value v) w':=by
    rw[hbi];simp[builtin]
   rw[hr]
   split
   ·rename_i tu htu
    split
    ·rename_i q hq
     split
     ·rename_i i hi
      obtain⟨k,hk⟩:=aR h2 hi
      split
      ·rename_i h0
       split
       ·rename_i v s' hv
        obtain⟨z,w',ρ',r1,r2,r3⟩:=gM (ty:=o.type) (k:=k) hOK hR htu hq h0 h1 hv
        exact⟨z,w',ρ',by rw[hk,r1];rfl,r2,r3⟩
       ·trivial
      ·trivial
     ·trivial
    ·rename_i hns
     split
     ·rename_i v s' hv
      obtain⟨z,w',ρ',r1,r2,r3⟩:=io (ty:=o.type) hOK hR htu (λk hk=>hns k hk) h1 h2 hv
      exact⟨z,w',ρ',by rw[r1];rfl,r2,r3⟩
     ·trivial
   ·trivial
  ·
   rename_i x y t ts hxs hts
   have h1:=hev x (by simp[hxs])
   have h2:=hev y (by simp[hxs])
   have hta:c.argTypes=⟨t :: ts⟩:=by apply Array.ext';simpa using hts
   have hbi:=hexec _ rfl
   simp only[hxs,List.map_cons,List.map_nil,hta]at hbi
   have hr:(execOp a.eval o).run E.P w=((Builtin.copy_ ⟨t :: ts⟩ o.type #[a.eval x,a.eval y]).run E.P w).andThen λv w'=> .ok (.value v) w':=by
    rw[hbi];simp[builtin]
   rw[hr]
   split
   ·rename_i n s' hn
    obtain⟨w',r1,r2⟩:=kr (ty:=o.type) hOK hR h1 h2 hn
    exact⟨_,w',ρ,by rw[r1];rfl, .num _,r2⟩
   ·trivial
  ·
   rename_i x y hxs
   have h1:=hev x (by simp[hxs])
   have h2:=hev y (by simp[hxs])
   split
   ·rename_i m hmm
    split
    ·rename_i n hnn
     rw[hmm]at h1;rw[hnn]at h2
     rw[hexec _ rfl]
     generalize hz:a.eval x=z at h1
     generalize hz':a.eval y=z' at h2
     cases h1;cases h2
     refine⟨_,w,ρ,?_, .num _,Mv.refl hR⟩
     simp[builtin,hxs,hz,hz',Builtin.min_,Builtin.min2,cS]
    ·exact hpure
   ·exact hpure
  ·
   rename_i x y hxs
   have h1:=hev x (by simp[hxs])
   have h2:=hev y (by simp[hxs])
   split
   ·rename_i m hmm
    split
    ·rename_i n hnn
     rw[hmm]at h1;rw[hnn]at h2
     rw[hexec _ rfl]
     generalize hz:a.eval x=z at h1
     generalize hz':a.eval y=z' at h2
     cases h1;cases h2
     refine⟨_,w,ρ,?_, .num _,Mv.refl hR⟩
     simp[builtin,hxs,hz,hz',Builtin.max_,Builtin.max2,cS]
    ·exact hpure
   ·exact hpure
  ·
   rw[hexec _ rfl]
   rfl
  ·
   rename_i x hxs
   have h1:=hev x (by simp[hxs])
   split
   ·rename_i t v hp
    rw[hp]at h1
    rw[hexec _ rfl]
    generalize hz:a.eval x=z at h1
    cases h1 with
    |ifc hv=>
    exact⟨rfl,_,by simp[builtin,hxs,hz,Instr.panic], .ifc hv⟩
   ·trivial
  ·exact hpure
 ·rename_i f hc
  have hf:ac E.P.globals.size f=true:=hg f (by simp[Call.operands,hc])
  refine kg hOK hR (VR.evalO hE (λi hi=>hR.glob i hi) hf) (VRs.evalL hR hE hargs) ?_ hpure
  simp only[execOp,hop,resolve,hc,hm]
 ·trivial
end
end
section
section
variable {E:Env} {G:aD} {ρ:aj} {st:St} {w:aa} {T:Tr AV} {a:Act} {o:Z}
theorem bt {P:Program} {α β:Type} {b:β}:∀(s:Sem α) (f:α->Sem β),ay P (s>>=f)=F b->∃a,ay P s=F a/\ay P (f a)=F b:=by
 intro s
 induction s with
 |pure a=>intro f h;exact⟨a,rfl,h⟩
 |program k ih=>intro f h;exact ih P f h
 |mark m k ih=>intro f h;exact ih f h
 |_=>intro f h;simp[bind,Sem.bind,ay]at h
def cH:List MapEntry->List MapEntry->Prop
 |[],[]=>True
 |e :: es,m :: ms=>e.key=m.key/\cH es ms
 |_,_=>False
theorem MR.length {es:List (N×AV×Nat)} {l:List MapEntry} (h:MR ρ es l):es.length=l.length:=by
 induction es generalizing l with
 |nil=>cases l with|nil=>rfl|cons _ _=>exact h.elim
 |cons e es ih=>cases l with|nil=>exact h.elim|cons m ms=>simp[ih h.2]
theorem MR.keys {es:List (N×AV×Nat)} {l:List MapEntry} (h:MR ρ es l):cH (es.map λe=>⟨e.1, .tuple #[],0⟩) l:=by
 induction es generalizing l with
 |nil=>cases l with|nil=>trivial|cons _ _=>exact h.elim
 |cons e es ih=>cases l with|nil=>exact h.elim|cons m ms=>exact⟨h.1.1.symm,ih h.2⟩
def d3 (i:Nat) (M:List MapEntry):Option (Nat×N)->Option (Nat×N)->Prop
 |none,H=>True
 |some (j,_),F (j',v)=>j=j'/\i<=j/\∃m,M[j - i]?=F m/\m.val=v
 |_,_=>False
theorem d3.cons {i:Nat} {m:MapEntry} {M:List MapEntry} {x y:Option (Nat×N)} (h:d3 (i+1) M x y):d3 i (m :: M) x y:=by
 cases x with
 |none=>cases y with|none=>trivial|some _=>exact h.elim
 |some x=>cases y with
  |none=>exact h.elim
  |some y=>
   obtain⟨j,u⟩:=x
   obtain⟨j',v⟩:=y
   obtain⟨h1,h2,mm,h3,h4⟩:=h
   refine⟨h1,by omega,mm,?_,h4⟩
   have:j - i=(j - (i+1))+1:=by omega
   rw[this];simpa using h3
theorem dz (kind:TypeDesc) (k:N):∀(L M:List MapEntry) (i:Nat),cH L M->
  match Instr.findNow kind k L i,Instr.findNow kind k M i with
  |none,H=>True
  |some x,F y=>d3 i M x y
  |_,_=>False
 |[],[],i,_=>trivial
 |e :: L,m :: M,i,h=>by
  obtain⟨hk,h⟩:=h
  simp only[Instr.findNow,hk]
  cases Instr.sameNow kind k m.key with
  |none=>trivial
  |some b=>cases b with
   |true=>exact⟨rfl,Nat.le_refl _,m,by simp,rfl⟩
   |false=>
    have ih:=dz kind k L M (i+1) h
    revert ih
    cases Instr.findNow kind k L (i+1)<;>cases Instr.findNow kind k M (i+1)<;>intro ih
    ·trivial
    ·exact ih.elim
    ·exact ih.elim
    ·exact ih.cons
 |[],_ :: _,_,h=>h.elim
 |_ :: _,[],_,h=>h.elim
theorem cv (kt:S) (k:N) (w:aa):∀(L M:List MapEntry) (i:Nat) (x:Option (Nat×N)),cH L M->ay E.P (Instr.findAsking kt k L i)=F x->
  ∃y,(Instr.findAsking kt k M i).run E.P w= .ok y w/\d3 i M x y
 |[],[],i,x,_,h=>by
  simp only[Instr.findAsking]at h
  have:x=H:=by
   have h':F H=F x:=h
   injection h' with h';exact h'.symm
  subst this
  exact⟨H,rfl,trivial⟩
 |e :: L,m :: M,i,x,h,hp=>by
  obtain⟨hk,h⟩:=h
  simp only[Instr.findAsking,hk]at hp
  obtain⟨b,hb1,hb2⟩:=bt _ _ hp
  have hrun:=bD _ _ hb1 w
  simp only[Instr.findAsking,J,hrun,I]
  cases b with
  |true=>
   have:x=F (i,e.val):=by
    have h':F (F (i,e.val))=F x:=hb2
    injection h' with h';exact h'.symm
   subst this
   exact⟨_,rfl,rfl,Nat.le_refl _,m,by simp,rfl⟩
  |false=>
   obtain⟨y,h1,h2⟩:=cv kt k w L M (i+1) x h hb2
   exact⟨y,h1,h2.cons⟩
 |[],_ :: _,_,_,h,_=>h.elim
 |_ :: _,[],_,_,h,_=>h.elim
theorem dF (kt:S) (k:N) (w:aa) {L M:List MapEntry} {x:Option (Nat×N)} (h:cH L M) (hp:ay E.P (Instr.findKey kt k L)=F x):
  ∃y,(Instr.findKey kt k M).run E.P w= .ok y w/\d3 0 M x y:=by
 unfold Instr.findKey at hp⊢
 obtain⟨d,hd1,hd2⟩:=bt _ _ hp
 have hrun:=bD _ _ hd1 w
 simp only[J,hrun,I]
 have hs:=dz d k L M 0 h
 revert hs hd2
 cases Instr.findNow d k L 0 with
 |none=>cases Instr.findNow d k M 0 with
  |none=>intro hd2 _;exact cv kt k w L M 0 x h hd2
  |some _=>intro _ hs;exact hs.elim
 |some r=>cases Instr.findNow d k M 0 with
  |none=>intro _ hs;exact hs.elim
  |some r'=>
   intro hd2 hs
   have h':F r=F x:=hd2
   injection h' with h'
   subst h'
   exact⟨r',rfl,hs⟩
theorem kH {es:List (N×AV×Nat)} {l:List MapEntry} (h:MR ρ es l) {i:Nat} {e:N×AV×Nat} (he:ju es i=F e):∃m,l[i]?=F m/\m.key=e.1/\VR ρ e.2.1 m.val/\m.born=e.2.2:=by
 induction es generalizing l i with
 |nil=>cases l with|nil=>simp[ju]at he|cons _ _=>exact h.elim
 |cons x es ih=>
  cases l with
  |nil=>exact h.elim
  |cons m ms=>
   cases i with
   |zero=>simp[ju]at he;subst he;exact⟨m,by simp,h.1⟩
   |succ i=>simp only[ju]at he;simpa using ih h.2 he
theorem b7 {emp:Bool} {kt:S} {k:N} {es:List (N×AV×Nat)} {l:List MapEntry} (h:MR ρ es l) {r:Option (Nat×N×AV×Nat)} (hf:fW E emp kt k es=F r) (w:aa):
  (Instr.checkKey emp 10000 kt k).run E.P w= .ok () w/\
  match r with
  |none=>(Instr.findKey kt k l).run E.P w= .ok H w
  |some (j,e)=>∃m,l[j]?=F m/\m.key=e.1/\VR ρ e.2.1 m.val/\m.born=e.2.2/\(Instr.findKey kt k l).run E.P w= .ok (F (j,m.val)) w:=by
 unfold fW at hf
 split at hf
 ·rename_i hp
  cases hf
  obtain⟨u,h1,h2⟩:=bt _ _ hp
  obtain⟨y,h3,h4⟩:=dF (E:=E) kt k w h.keys h2
  refine⟨bD _ _ h1 w,?_⟩
  cases y with
  |none=>exact h3
  |some _=>exact h4.elim
 ·rename_i p hp
  split at hf
  ·rename_i e he
   cases hf
   obtain⟨u,h1,h2⟩:=bt _ _ hp
   obtain⟨y,h3,h4⟩:=dF (E:=E) kt k w h.keys h2
   refine⟨bD _ _ h1 w,?_⟩
   cases y with
   |none=>obtain⟨j,v⟩:=p;exact h4.elim
   |some y=>
    obtain⟨j,v⟩:=p
    obtain⟨j',v'⟩:=y
    obtain⟨rfl,_,m,h5,h6⟩:=h4
    simp at h5
    obtain⟨m',g1,g2,g3,g4⟩:=kH h he
    rw[h5]at g1
    cases g1
    exact⟨m,h5,g2,g3,g4,by rw[h3,h6]⟩
  ·cases hf
 ·cases hf
theorem MR.set {es:List (N×AV×Nat)} {l:List MapEntry} (h:MR ρ es l) {i:Nat} {f:N×AV×Nat->N×AV×Nat} {g:MapEntry->MapEntry}
  (hfg:∀e m,m.key=e.1/\VR ρ e.2.1 m.val/\m.born=e.2.2->(g m).key=(f e).1/\VR ρ (f e).2.1 (g m).val/\(g m).born=(f e).2.2):MR ρ (fq es i f) (l.modify i g):=by
 induction es generalizing l i with
 |nil=>cases l with|nil=>simp[fq,MR]|cons _ _=>exact h.elim
 |cons e es ih=>
  cases l with
  |nil=>exact h.elim
  |cons m ms=>
   cases i with
   |zero=>simpa[fq]using⟨hfg e m h.1,h.2⟩
   |succ i=>simpa[fq]using⟨h.1,ih h.2⟩
theorem MR.snoc {es:List (N×AV×Nat)} {l:List MapEntry} (h:MR ρ es l) {e:N×AV×Nat} {m:MapEntry} (he:m.key=e.1/\VR ρ e.2.1 m.val/\m.born=e.2.2):MR ρ (es++[e]) (l++[m]):=by
 induction es generalizing l with
 |nil=>cases l with|nil=>exact⟨he,trivial⟩|cons _ _=>exact h.elim
 |cons x es ih=>cases l with|nil=>exact h.elim|cons m' ms=>exact⟨h.1,ih h.2⟩
theorem cq (hR:Rel E G ρ st w.heap) {i b e:Nat} (hi:ρ i=F (b,e)) {es:List (N×AV×Nat)} {c:Nat} (hg:st.h.get i=F (.map es c)):∃l,w.heap[b]?=F (.map ⟨l⟩ c)/\MR ρ es l:=by
 obtain⟨ob,h1,h2⟩:=hR.obj i _ b e hg hi
 cases h2 with
 |map l h=>exact⟨l,h1,h⟩
theorem aG (hR:Rel E G ρ st w.heap) {i b e:Nat} (hi:ρ i=F (b,e)) {ob ob':AObj} (hg:st.h.get i=F ob) {old new:Obj} (hb:w.heap[b]?=F old) (hc:∀c e f,old≠ .cells c e f) (ho:OR E G ρ e ob' new):
  ∃w',(setObj b new).run E.P w= .ok () w'/\Mv E G ρ st w ρ (st.upd i (F ob')) w':=by
 refine⟨{w with heap:=w.heap.setIfInBounds b new},?_,?_⟩
 ·unfold setObj
  simp only[Sem.run,hb]
 ·have hlt:=cr hb
  obtain⟨r1,r2⟩:=hR.upd (h':=w.heap.setIfInBounds b new) (o':=ob') hg hi (by simp) (λc hcb=>by simp[Array.getElem?_setIfInBounds_ne (Ne.symm hcb)]) (by simp[hlt]) ho
  exact⟨r1,r2,⟨rfl,rfl,rfl⟩,rfl⟩
theorem bx (hR:Rel E G ρ st w.heap) {ob:AObj} {o':Obj} (ho:OR E G ρ 0 ob o'):∃w',(newObj o').run E.P w= .ok w.heap.size w'/\Mv E G ρ st w (aK ρ st.n w.heap.size 0) (st.new ob) w':=
 ⟨{w with heap:=w.heap.push o'},by simp,Mv.new hR rfl ⟨rfl,rfl,rfl⟩ ho⟩
theorem gv (hOK:EOK E) (hR:Rel E G ρ st w.heap) (hE:ER ρ T a.tmps) {t:S} {r:Option W} (hr:∀x,r=F x->ac E.P.globals.size x=true):
  bl E G ρ st w ((do let y<-Instr.makeMap t (r.map a.eval);pure (.value y):Sem Next).run E.P w) (bZ E o T st t r):=by
 have mk:(∀w,(Instr.makeMap t (r.map a.eval)).run E.P w=(do pure (.map (F (<-newObj (.map #[] 0)))):Sem N).run E.P w)->
   bl E G ρ st w ((do let y<-Instr.makeMap t (r.map a.eval);pure (.value y):Sem Next).run E.P w) (.val (.mp st.n) (st.new (.map [] 0))):=by
  intro h
  obtain⟨w',h1,h2⟩:=bx (E:=E) hR (ob:= .map [] 0) (o':= .map #[] 0) (.map [] trivial)
  refine .of_value ⟨.map (F w.heap.size),w',_,?_, .mp (ae _ _ _ _),h2⟩
  rw[h w];simp only[J,h1,I,O]
 unfold bZ
 split
 ·exact mk λw=>rfl
 ·rename_i x
  split
  ·rename_i ti n hti hn
   obtain⟨k,hk⟩:=aR (VR.evalO hE (λi hi=>hR.glob i hi) (hr x rfl)) hn
   obtain⟨d,hd,hu⟩:=(hOK.ty _ _ hti).run_underlying
   split
   ·rename_i kt et htk
    rw[htk]at hd
    have hd':d= .map kt et:=hd
    subst hd'
    exact mk λw=>by simp[Instr.makeMap,hu,hk,asInt,asIntOf]
   ·trivial
  ·trivial
theorem eH {t:S} {ti:TI} (h:TIOK E.P t ti) (w:aa):∃z,(zeroValue t).run E.P w= .ok z w/\∀ρ,VR ρ (d4 ti) z:=by
 obtain⟨z,h1,_,_,h4⟩:=h.zero_run w
 exact⟨z,h1,h4⟩
theorem dS (hR:Rel E G ρ st w.heap) (hE:ER ρ T a.tmps) {k:W} (hk:ac E.P.globals.size k=true) {kv:N} (h:(V T k).toVal=F kv):a.eval k=kv:=
 (VR.evalO hE (λi hi=>hR.glob i hi) hk).toVal h
def k7 (E:Env) (ρ:aj) (kt:S) (kv:N) (l:List MapEntry) (w:aa):Option (Nat×N×AV×Nat)->Prop
 |none=>(Instr.findKey kt kv l).run E.P w= .ok H w
 |some p=>∃m:MapEntry,VR ρ p.2.2.1 m.val/\(Instr.findKey kt kv l).run E.P w= .ok (F (p.1,m.val)) w
theorem gK (hR:Rel E G ρ st w.heap) {x:AV} {y:N} (h1:VR ρ x y) {kt:S} {kv:N} {r:Option (Nat×N×AV×Nat)} (hr:ft E kt kv x st=F r):
  ∃l:List MapEntry,((y= .map H/\l=[])\/∃b c,y= .map (F b)/\w.heap[b]?=F (.map ⟨l⟩ c))/\(Instr.checkKey l.isEmpty 10000 kt kv).run E.P w= .ok () w/\k7 E ρ kt kv l w r:=by
 unfold ft at hr
 split at hr
 ·cases h1
  obtain⟨g1,g2⟩:=b7 (ρ:=ρ) (l:=[]) (es:=[]) trivial hr w
  refine⟨[], .inl ⟨rfl,rfl⟩,g1,?_⟩
  cases r with
  |none=>exact g2
  |some p=>obtain⟨j,e⟩:=p;obtain⟨m,q1,q2,q3,q4,q5⟩:=g2;exact⟨m,q3,q5⟩
 ·rename_i i
  split at hr
  ·rename_i es c hg
   cases h1 with
   |mp hi=>
   obtain⟨l,hb,hm⟩:=cq hR hi hg
   obtain⟨g1,g2⟩:=b7 hm hr w
   have hemp:es.isEmpty=l.isEmpty:=by
    have:=hm.length
    cases es<;>cases l<;>simp_all
   rw[hemp]at g1
   refine⟨l, .inr ⟨_,c,rfl,hb⟩,g1,?_⟩
   cases r with
   |none=>exact g2
   |some p=>obtain⟨j,e⟩:=p;obtain⟨m,q1,q2,q3,q4,q5⟩:=g2;exact⟨m,q3,q5⟩
  ·cases hr
 ·cases hr
theorem hS (hOK:EOK E) (hR:Rel E G ρ st w.heap) (hE:ER ρ T a.tmps) {t:S} {x k:W} {ok:Bool} (hx:ac E.P.globals.size x=true) (hk:ac E.P.globals.size k=true):
  bl E G ρ st w ((do let y<-Instr.lookup t (a.eval x) (a.eval k) ok;pure (.value y):Sem Next).run E.P w) (bJ E o T st t x k ok):=by
 have h1:=VR.evalO hE (λi hi=>hR.glob i hi) hx
 unfold bJ
 split
 ·rename_i ti hti
  obtain⟨d,hd,hu⟩:=(hOK.ty _ _ hti).run_underlying
  split
  ·rename_i kt et htk
   rw[htk]at hd
   have hd':d= .map kt et:=hd
   subst hd'
   split
   ·rename_i kv hkv
    rw[dS hR hE hk hkv]
    split
    ·rename_i j k' v b hr
     obtain⟨l,hl,hc,m,hv,hf⟩:=gK hR h1 hr
     refine .of_still hR ⟨if ok then .tuple #[m.val, .bool true]else m.val,?_,?_⟩
     ·rcases hl with⟨hy,rfl⟩|⟨b',c,hy,hb⟩
      ·have hc':(Instr.checkKey true 10000 kt kv).run E.P w= .ok () w:=hc
       simp[Instr.lookup,hu,hy,hc',hf]
      ·have:=ai (P:=E.P) hb (λ_ _ _ h=>by cases h)
       have hc':(Instr.checkKey (Array.isEmpty ⟨l⟩) 10000 kt kv).run E.P w= .ok () w:=by
        have:Array.isEmpty (⟨l⟩:Array MapEntry)=l.isEmpty:=by cases l<;>rfl
        rw[this];exact hc
       simp only[Instr.lookup,J,hu,I,hy,this,O,hc',hf]
     ·cases ok
      ·exact hv
      ·exact .tup (.cons hv (.cons (.bool true) .nil))
    ·rename_i te hr hte
     obtain⟨l,hl,hc,hf⟩:=gK hR h1 hr
     have hf:(Instr.findKey kt kv l).run E.P w= .ok H w:=hf
     obtain⟨z,hz1,hz2⟩:=eH (hOK.ty _ _ hte) w
     refine .of_still hR ⟨if ok then .tuple #[z, .bool false]else z,?_,?_⟩
     ·rcases hl with⟨hy,rfl⟩|⟨b',c,hy,hb⟩
      ·have hc':(Instr.checkKey true 10000 kt kv).run E.P w= .ok () w:=hc
       simp[Instr.lookup,hu,hy,hc',hf,hz1]
      ·have:=ai (P:=E.P) hb (λ_ _ _ h=>by cases h)
       have hc':(Instr.checkKey (Array.isEmpty ⟨l⟩) 10000 kt kv).run E.P w= .ok () w:=by
        have:Array.isEmpty (⟨l⟩:Array MapEntry)=l.isEmpty:=by cases l<;>rfl
        rw[this];exact hc
       simp only[Instr.lookup,J,hu,I,hy,this,O,hc',hf,hz1]
     ·cases ok
      ·exact hz2 ρ
      ·exact .tup (.cons (hz2 ρ) (.cons (.bool false) .nil))
    ·trivial
   ·trivial
  ·trivial
 ·trivial
theorem d9 (hOK:EOK E) (hR:Rel E G ρ st w.heap) (hE:ER ρ T a.tmps) {t:S} {m k v:W} (hm:ac E.P.globals.size m=true) (hk:ac E.P.globals.size k=true) (hv:ac E.P.globals.size v=true):
  bl E G ρ st w ((do Instr.mapUpdate t (a.eval m) (a.eval k) (a.eval v);pure .skip:Sem Next).run E.P w) (bh E o T st t m k v):=by
 have h1:=VR.evalO hE (λi hi=>hR.glob i hi) hm
 have h3:=VR.evalO hE (λi hi=>hR.glob i hi) hv
 unfold bh
 split
 ·rename_i ti hti
  obtain⟨d,hd,hu⟩:=(hOK.ty _ _ hti).run_underlying
  split
  ·rename_i kt et htk
   rw[htk]at hd
   have hd':d= .map kt et:=hd
   subst hd'
   split
   ·rename_i kv i hkv hp
    rw[dS hR hE hk hkv]
    rw[hp]at h1
    generalize a.eval m=z at h1
    cases h1 with
    |@mp _ b e hi=>
    split
    ·rename_i es c hg
     obtain⟨l,hb,hmr⟩:=cq hR hi hg
     have hgo:=ai (P:=E.P) hb (λ_ _ _ h=>by cases h)
     split
     ·rename_i j k' v' hf
      obtain⟨g1,mm,q1,q2,q3,q4,q5⟩:=b7 hmr hf w
      split
      ·rename_i hsame
       have hnew:OR E G ρ e (.map (fq es j λe=>(kv,V T v,e.2.2)) c) (.map ⟨l.modify j λe=>{e with key:=kv,val:=a.eval v}⟩ c):=
        .map _ (hmr.set λe m h=>⟨rfl,h3,h.2.2⟩)
       obtain⟨w',r1,r2⟩:=aG hR hi hg hb (λ_ _ _ h=>by cases h) hnew
       refine .of_skip ⟨w',ρ,?_,r2⟩
       have hq1:(⟨l⟩:Array MapEntry)[j]?=F mm:=by simpa using q1
       have hkk:mm.key=k':=q2
       have hmod:(⟨l⟩:Array MapEntry).modify j (λe=>{e with key:=kv,val:=a.eval v})=⟨l.modify j λe=>{e with key:=kv,val:=a.eval v}⟩:=by
        apply Array.ext';simp
       simp only[Instr.mapUpdate,J,hu,I,hgo,g1,q5,hq1,Option.map_some,Option.getD_some,Instr.keyThatStays,hkk,hsame,if_true,O,hmod,r1]
      ·trivial
     ·rename_i hf
      obtain⟨g1,g2⟩:=b7 hmr hf w
      have hnew:OR E G ρ e (.map (es++[(kv,V T v,c)]) (c+1)) (.map ⟨l++[{key:=kv,val:=a.eval v,born:=c}]⟩ (c+1)):=
       .map _ (hmr.snoc ⟨rfl,h3,rfl⟩)
      obtain⟨w',r1,r2⟩:=aG hR hi hg hb (λ_ _ _ h=>by cases h) hnew
      refine .of_skip ⟨w',ρ,?_,r2⟩
      have hpush:(⟨l⟩:Array MapEntry).push {key:=kv,val:=a.eval v,born:=c}=⟨l++[{key:=kv,val:=a.eval v,born:=c}]⟩:=by
       apply Array.ext';simp
      simp only[Instr.mapUpdate,J,hu,I,hgo,g1,g2,hpush,r1]
     ·trivial
    ·trivial
   ·trivial
  ·trivial
 ·trivial
theorem fG (hOK:EOK E) (hR:Rel E G ρ st w.heap) (hE:ER ρ T a.tmps) {t:S} {m k:W} (hm:ac E.P.globals.size m=true) (hk:ac E.P.globals.size k=true):
  bl E G ρ st w ((do let y<-Instr.mapEntry t (a.eval m) (a.eval k);pure (.value y):Sem Next).run E.P w) (bK E o T st t m k):=by
 have h1:=VR.evalO hE (λi hi=>hR.glob i hi) hm
 unfold bK
 split
 ·rename_i ti hti
  obtain⟨d,hd,hu⟩:=(hOK.ty _ _ hti).run_underlying
  split
  ·rename_i kt et htk
   rw[htk]at hd
   have hd':d= .map kt et:=hd
   subst hd'
   split
   ·rename_i kv i hkv hp
    rw[dS hR hE hk hkv]
    rw[hp]at h1
    generalize a.eval m=z at h1
    cases h1 with
    |@mp _ b e hi=>
    split
    ·rename_i es c hg
     obtain⟨l,hb,hmr⟩:=cq hR hi hg
     have hgo:=ai (P:=E.P) hb (λ_ _ _ h=>by cases h)
     split
     ·rename_i j k' v' bn hf
      obtain⟨g1,mm,q1,q2,q3,q4,q5⟩:=b7 hmr hf w
      split
      ·rename_i hsame
       have hnew:OR E G ρ e (.map (fq es j λe=>(kv,e.2.1,e.2.2)) c) (.map ⟨l.modify j λe=>{e with key:=kv}⟩ c):=
        .map _ (hmr.set λe m h=>⟨rfl,h.2.1,h.2.2⟩)
       obtain⟨w',r1,r2⟩:=aG hR hi hg hb (λ_ _ _ h=>by cases h) hnew
       have hq1:(⟨l⟩:Array MapEntry)[j]?=F mm:=by simpa using q1
       have hkk:mm.key=k':=q2
       have hbn:mm.born=bn:=q4
       have hmod:(⟨l⟩:Array MapEntry).modify j (λe=>{e with key:=kv})=⟨l.modify j λe=>{e with key:=kv}⟩:=by
        apply Array.ext';simp
       refine .of_value ⟨.tuple #[mm.val, .int .i64 bn],w',ρ,?_, .tup (.cons q3 (.cons (.num _) .nil)),r2⟩
       simp only[Instr.mapEntry,J,hu,I,hgo,g1,q5,hq1,Option.map_some,Option.getD_some,Instr.keyThatStays,hkk,hsame,if_true,O,hmod,r1,hbn,goInt]
      ·trivial
     ·rename_i te hf hte
      obtain⟨g1,g2⟩:=b7 hmr hf w
      obtain⟨z,hz1,hz2⟩:=eH (hOK.ty _ _ hte) w
      have hnew:OR E G ρ e (.map (es++[(kv,d4 te,c)]) (c+1)) (.map ⟨l++[{key:=kv,val:=z,born:=c}]⟩ (c+1)):=
       .map _ (hmr.snoc ⟨rfl,hz2 ρ,rfl⟩)
      obtain⟨w',r1,r2⟩:=aG hR hi hg hb (λ_ _ _ h=>by cases h) hnew
      have hpush:(⟨l⟩:Array MapEntry).push {key:=kv,val:=z,born:=c}=⟨l++[{key:=kv,val:=z,born:=c}]⟩:=by
       apply Array.ext';simp
      refine .of_value ⟨.tuple #[z, .int .i64 c],w',ρ,?_, .tup (.cons (hz2 ρ) (.cons (.num _) .nil)),r2⟩
      simp only[Instr.mapEntry,J,hu,I,hgo,g1,g2,hz1,hpush,r1,O,goInt]
     ·trivial
    ·trivial
   ·trivial
  ·trivial
 ·trivial
theorem jx {es:List (N×AV×Nat)} {l:List MapEntry} (h:MR ρ es l) {b j:Nat} (hb:dT es b=F j):l.findIdx? (λe=>(e.born:Int)==(b:Int))=F j:=by
 induction es generalizing l j with
 |nil=>simp[dT]at hb
 |cons e es ih=>
  cases l with
  |nil=>exact h.elim
  |cons m ms=>
   simp only[dT]at hb
   rw[List.findIdx?_cons]
   have hbm:m.born=e.2.2:=h.1.2.2
   split at hb
   ·rename_i he
    cases hb
    have:((m.born:Int)==(b:Int))=true:=by simp[hbm,he]
    simp[this]
   ·rename_i he
    cases hr:dT es b with
    |none=>simp[hr]at hb
    |some j'=>
     simp[hr]at hb
     subst hb
     have:((m.born:Int)==(b:Int))=false:=by
      simp[hbm];intro h;exact he (by omega)
     simp[this,ih h.2 hr]
theorem ey (hR:Rel E G ρ st w.heap) (hE:ER ρ T a.tmps) {t:S} {m s v:W} (hm:ac E.P.globals.size m=true) (hs:ac E.P.globals.size s=true) (hv:ac E.P.globals.size v=true):
  bl E G ρ st w ((do Instr.entryStore t (a.eval m) (a.eval s) (a.eval v);pure .skip:Sem Next).run E.P w) (aZ E o T st m s v):=by
 have h1:=VR.evalO hE (λi hi=>hR.glob i hi) hm
 have h2:=VR.evalO hE (λi hi=>hR.glob i hi) hs
 have h3:=VR.evalO hE (λi hi=>hR.glob i hi) hv
 unfold aZ
 split
 ·rename_i i b hp hb
  obtain⟨kk,hkk⟩:=aR h2 hb
  rw[hp]at h1
  generalize a.eval m=z at h1
  cases h1 with
  |@mp _ bb e hi=>
  split
  ·rename_i es c hg
   obtain⟨l,hbl,hmr⟩:=cq hR hi hg
   have hgo:=ai (P:=E.P) hbl (λ_ _ _ h=>by cases h)
   split
   ·rename_i h0
    split
    ·rename_i j hj
     have hnew:OR E G ρ e (.map (fq es j λe=>(e.1,V T v,e.2.2)) c) (.map ⟨l.modify j λe=>{e with val:=a.eval v}⟩ c):=
      .map _ (hmr.set λe m h=>⟨h.1,h3,h.2.2⟩)
     obtain⟨w',r1,r2⟩:=aG hR hi hg hbl (λ_ _ _ h=>by cases h) hnew
     refine .of_skip ⟨w',ρ,?_,r2⟩
     have hmod:(⟨l⟩:Array MapEntry).modify j (λe=>{e with val:=a.eval v})=⟨l.modify j λe=>{e with val:=a.eval v}⟩:=by
      apply Array.ext';simp
     have hfi:(⟨l⟩:Array MapEntry).findIdx? (λe=>(e.born:Int)==b)=F j:=by
      have:=jx hmr hj
      rw[Int.toNat_of_nonneg h0]at this
      simpa using this
     simp only[Instr.entryStore,J,I,hgo,hkk,asInt,asIntOf,O,hfi,hmod,r1]
    ·trivial
   ·trivial
  ·trivial
 ·trivial
theorem iy (hOK:EOK E) (hR:Rel E G ρ st w.heap) (hE:ER ρ T a.tmps) {t:S} {x:W} (hx:ac E.P.globals.size x=true):
  bl E G ρ st w ((do let y<-Instr.range t (a.eval x);pure (.value y):Sem Next).run E.P w) (dN E o T st t x):=by
 have h1:=VR.evalO hE (λi hi=>hR.glob i hi) hx
 unfold dN
 split
 ·rename_i ti hti
  obtain⟨d,hd,hu⟩:=(hOK.ty _ _ hti).run_underlying
  generalize V T x=u at h1
  generalize a.eval x=z at h1
  split
  ·rename_i b hk
   rw[hk]at hd
   have hd':d= .string:=hd
   subst hd'
   cases h1
   obtain⟨w',r1,r2⟩:=bx (E:=E) hR (ob:= .siter b 0) (.siter b 0)
   refine .of_value ⟨.pointer (F ⟨w.heap.size,0,H⟩),w',_,?_, .ptr (ae _ _ _ _),r2⟩
   simp only[Instr.range,J,hu,I,O,r1]
  ·rename_i kt et hk
   rw[hk]at hd
   have hd':d= .map kt et:=hd
   subst hd'
   cases h1
   obtain⟨w',r1,r2⟩:=bx (E:=E) hR (ob:= .miter H 0 [] 0) (.miter0 0 [] 0)
   refine .of_value ⟨.pointer (F ⟨w.heap.size,0,H⟩),w',_,?_, .ptr (ae _ _ _ _),r2⟩
   simp only[Instr.range,J,hu,I,O,r1]
  ·rename_i kt et i hk
   rw[hk]at hd
   have hd':d= .map kt et:=hd
   subst hd'
   cases h1 with
   |@mp _ b e hi=>
   split
   ·rename_i es c hg
    obtain⟨l,hb,hmr⟩:=cq hR hi hg
    have hgo:=ai (P:=E.P) hb (λ_ _ _ h=>by cases h)
    obtain⟨w',r1,r2⟩:=bx (E:=E) hR (ob:= .miter (F i) c [] c) (.miter c [] c hi)
    refine .of_value ⟨.pointer (F ⟨w.heap.size,0,H⟩),w',_,?_, .ptr (ae _ _ _ _),r2⟩
    simp only[Instr.range,J,hu,I,hgo,O,r1]
   ·trivial
  ·trivial
 ·trivial
theorem MR.filter {es:List (N×AV×Nat)} {l:List MapEntry} (h:MR ρ es l) (p:Nat->Bool):MR ρ (es.filter λe=>p e.2.2) (l.filter λm=>p m.born):=by
 induction es generalizing l with
 |nil=>cases l with|nil=>trivial|cons _ _=>exact h.elim
 |cons e es ih=>
  cases l with
  |nil=>exact h.elim
  |cons m ms=>
   have hb:m.born=e.2.2:=h.1.2.2
   simp only[List.filter_cons,hb]
   split
   ·exact⟨h.1,ih h.2⟩
   ·exact ih h.2
theorem MR.all {es:List (N×AV×Nat)} {l:List MapEntry} (h:MR ρ es l) (p:Nat->Bool):(es.all λe=>p e.2.2)=(l.all λm=>p m.born):=by
 induction es generalizing l with
 |nil=>cases l with|nil=>rfl|cons _ _=>exact h.elim
 |cons e es ih=>
  cases l with
  |nil=>exact h.elim
  |cons m ms=>simp[h.1.2.2,ih h.2]
theorem jC (hR:Rel E G ρ st w.heap) (hE:ER ρ T a.tmps) {x:W} {isS:Bool} {ty:S} (hx:ac E.P.globals.size x=true):
  bl E G ρ st w ((do let y<-Instr.next (a.eval x) isS ty;pure (.value y):Sem Next).run E.P w) (fe E o T st x isS):=by
 have h1:=VR.evalO hE (λi hi=>hR.glob i hi) hx
 unfold fe
 split
 ·rename_i r hp
  rw[hp]at h1
  generalize a.eval x=z at h1
  cases h1 with
  |@ptr _ _ b e hi=>
  split
  ·
   rename_i s pos hg
   obtain⟨ob,hb,hor⟩:=hR.obj _ _ _ _ hg hi
   cases hor
   have hgo:=ai (P:=E.P) hb (λ_ _ _ h=>by cases h)
   split
   ·rename_i hlt
    obtain⟨w',r1,r2⟩:=aG (E:=E) hR hi hg hb (λ_ _ _ h=>by cases h) (ob':= .siter s (pos+(Utf8.decode s pos).2)) (.siter s (pos+(Utf8.decode s pos).2))
    refine .of_value ⟨.tuple #[.bool true,goInt pos, .int .i32 (Utf8.decode s pos).1],w',ρ,?_, .tup (.cons (.bool true) (.cons (.num _) (.cons (.val _) .nil))),r2⟩
    simp only[Instr.next,J,hgo,I,hlt,if_true,r1,O]
   ·rename_i hlt
    refine .of_still hR ⟨.tuple #[.bool false],?_, .tup (.cons (.bool false) .nil)⟩
    simp only[Instr.next,J,hgo,I,hlt,if_false,O]
  ·rename_i hg
   obtain⟨ob,hb,hor⟩:=hR.obj _ _ _ _ hg hi
   cases hor
   have hgo:=ai (P:=E.P) hb (λ_ _ _ h=>by cases h)
   refine .of_still hR ⟨.tuple #[.bool false],?_, .tup (.cons (.bool false) .nil)⟩
   simp only[Instr.next,J,hgo,I,O]
  ·rename_i m since seen last hg
   obtain⟨ob,hb,hor⟩:=hR.obj _ _ _ _ hg hi
   cases hor with
   |@miter _ mb me _ _ _ hmi=>
   have hgo:=ai (P:=E.P) hb (λ_ _ _ h=>by cases h)
   split
   ·rename_i es c hgm
    obtain⟨l,hbm,hmr⟩:=cq hR hmi hgm
    have hgm':=ai (P:=E.P) hbm (λ_ _ _ h=>by cases h)
    unfold jf
    split
    ·trivial
    ·rename_i hfine
     have hfine':¬((!(⟨seen⟩:Array Nat).isEmpty&&!(⟨l⟩:Array MapEntry).isEmpty&&(⟨l⟩:Array MapEntry).all λe=>decide (e.born>=last))=true):=by
      have e1:(⟨seen⟩:Array Nat).isEmpty=seen.isEmpty:=by cases seen<;>rfl
      have e2:(⟨l⟩:Array MapEntry).isEmpty=es.isEmpty:=by
       have:=hmr.length
       cases l<;>cases es<;>simp_all
      have e3:((⟨l⟩:Array MapEntry).all λe=>decide (e.born>=last))=es.all λe=>decide (e.2.2>=last):=by
       rw[hmr.all λb=>decide (b>=last)]
       simp
      rw[e1,e2,e3];exact hfine
     have hfil:=hmr.filter λb=>!seen.contains b
     have harr:(⟨l⟩:Array MapEntry).filter (λe=>!(⟨seen⟩:Array Nat).contains e.born)=⟨l.filter λm=>!seen.contains m.born⟩:=by
      apply Array.ext'
      simp
     split
     ·rename_i hnil
      rw[hnil]at hfil
      have hl0:(l.filter λm=>!seen.contains m.born)=[]:=by
       cases hq:l.filter λm=>!seen.contains m.born with
       |nil=>rfl
       |cons _ _=>rw[hq]at hfil;exact hfil.elim
      refine .of_still hR ⟨.tuple #[.bool false],?_, .tup (.cons (.bool false) .nil)⟩
      simp only[Instr.next,J,hgo,hgm',I,O,Sem.run_ite]
      rw[if_neg hfine']
      rw[harr,hl0]
      simp[Question.forced]
     ·rename_i en hone
      rw[hone]at hfil
      split
      ·rename_i hlt
       obtain⟨mm,hl1,hmm⟩:∃mm,(l.filter λm=>!seen.contains m.born)=[mm]/\(mm.key=en.1/\VR ρ en.2.1 mm.val/\mm.born=en.2.2):=by
        cases hq:l.filter λm=>!seen.contains m.born with
        |nil=>rw[hq]at hfil;exact hfil.elim
        |cons m ms=>
         rw[hq]at hfil
         cases ms with
         |nil=>exact⟨m,rfl,hfil.1⟩
         |cons _ _=>exact hfil.2.elim
       have hbl:mm.born<since:=by rw[hmm.2.2];exact hlt
       obtain⟨w',r1,r2⟩:=aG (E:=E) hR hi hg hb (λ_ _ _ h=>by cases h) (ob':= .miter (F m) since (seen++[en.2.2]) c) (.miter since (seen++[en.2.2]) c hmi)
       refine .of_value ⟨.tuple #[.bool true,mm.key,mm.val],w',ρ,?_, .tup (.cons (.bool true) (.cons (by rw[hmm.1];exact VR.ofConst ρ _) (.cons hmm.2.1 .nil))),r2⟩
       simp only[Instr.next,J,hgo,hgm',I,O,Sem.run_ite]
       rw[if_neg hfine']
       rw[harr,hl1]
       have f1:(⟨[mm]⟩:Array MapEntry).filter (λe=>decide (e.born<since))=#[mm]:=by simp[hbl]
       have f2:(⟨[mm]⟩:Array MapEntry).filter (λe=>decide (e.born>=since))=#[]:=by
        have:¬mm.born>=since:=by omega
        simp[this]
       simp only[f1,f2]
       simp[Question.forced]
       have he:(seen++[mm.born]).toArray=(⟨seen++[en.2.2]⟩:Array Nat):=by rw[hmm.2.2]
       rw[he,r1]
       rfl
      ·trivial
     ·trivial
   ·trivial
  ·trivial
 ·trivial
theorem MR.find {es:List (N×AV×Nat)} {l:List MapEntry} (h:MR ρ es l) (b:Nat) {e:N×AV×Nat} (he:es.find? (λe=>e.2.2==b)=F e):∃m,l.find? (λm=>m.born==b)=F m/\m.key=e.1/\VR ρ e.2.1 m.val:=by
 induction es generalizing l with
 |nil=>simp at he
 |cons x es ih=>
  cases l with
  |nil=>exact h.elim
  |cons m ms=>
   have hb:m.born=x.2.2:=h.1.2.2
   simp only[List.find?_cons]at he⊢
   rw[hb]
   cases hx:(x.2.2==b)with
   |true=>simp only[hx]at he⊢;cases he;exact⟨m,rfl,h.1.1,h.1.2.1⟩
   |false=>simp only[hx]at he⊢;exact ih h.2 he
theorem ij (hR:Rel E G ρ st w.heap) (hE:ER ρ T a.tmps) {x:W} (hx:ac E.P.globals.size x=true):
  bl E G ρ st w ((do let y<-Instr.entry (a.eval x);pure (.value y):Sem Next).run E.P w) (dH E o T st x):=by
 have h1:=VR.evalO hE (λi hi=>hR.glob i hi) hx
 unfold dH
 split
 ·rename_i r hp
  rw[hp]at h1
  generalize a.eval x=z at h1
  cases h1 with
  |@ptr _ _ b e hi=>
  split
  ·rename_i m since seen stepped hg
   obtain⟨ob,hb,hor⟩:=hR.obj _ _ _ _ hg hi
   cases hor with
   |@miter _ mb me _ _ _ hmi=>
   have hgo:=ai (P:=E.P) hb (λ_ _ _ h=>by cases h)
   split
   ·rename_i stamp es c hst hgm
    obtain⟨l,hbm,hmr⟩:=cq hR hmi hgm
    have hgm':=ai (P:=E.P) hbm (λ_ _ _ h=>by cases h)
    split
    ·rename_i hcs
     split
     ·rename_i en hfe
      obtain⟨mm,q1,q2,q3⟩:=hmr.find stamp hfe
      refine .of_still hR ⟨.tuple #[mm.key,mm.val],?_, .tup (.cons (by rw[q2];exact VR.ofConst ρ _) (.cons q3 .nil))⟩
      have hbk:(⟨seen⟩:Array Nat).back?=F stamp:=by simpa using hst
      have hfa:(⟨l⟩:Array MapEntry).find? (λe=>e.born==stamp)=F mm:=by simpa using q1
      simp only[Instr.entry,J,hgo,I,hbk,hgm',hcs,bne_self_eq_false,Bool.false_eq_true,if_false,hfa,O]
     ·trivial
    ·trivial
   ·trivial
  ·trivial
 ·trivial
end
end
section
section
variable {E:Env} {G:aD} {ρ:aj} {st:St} {w:aa} {T:Tr AV} {a:Act} {o:Z}
theorem il (hOK:EOK E) (hR:Rel E G ρ st w.heap) (hE:ER ρ T a.tmps) (ho:ao E.P.globals.size o=true):bl E G ρ st w ((execOp a.eval o).run E.P w) (an E o T st):=by
 have hpure:=aS hR hE ho
 have hg:∀x∈o.op.operands,ac E.P.globals.size x=true:=λx hx=>cu ho hx
 generalize hop:o.op=op at hg
 have hA:an E o T st=@Op.rec (λ_=>Env->Z->Tr AV->St->Res)
  (λx E o T s=>c9 E o T s x) (λx E o T s=>c9 E o T s x) (λc a b E o T s=>dX E o T s c a b) (λt E o T s=>cV E o T s t) (λt x E o T s=>eF E o T s t x)
  (λt parts E o T s=>cO E o T s t parts) (λt len parts E o T s=>aC E o T s t len parts) (λt m k v E o T s=>bh E o T s t m k v) (λt a E o T s=>c7 E o T s t a)
  (λt a v E o T s=>dy E o T s t a v) (λ_ E o T s=>ak E o T s) (λ_ E o T s=>ak E o T s) (λx E o T s=>bf E o T s x) (λop xt x y yt E o T s=>bP E o T s op xt x y yt)
  (λop _ x E o T s=>jz E o T s op x) (λsrc dst x E o T s=>b6 E o T s src dst x) (λ_ _ E o T s=>ak E o T s) (λt x E o T s=>ap E o T s t x)
  (λf first cap E o T s=>bc E o T s f first cap) (λt r E o T s=>bZ E o T s t r) (λ_ _ _ _ _ _=> .no 93) (λt l c E o T s=>aI E o T s t l c)
  (λt x lo hi mx E o T s=>cT E o T s t x lo hi mx) (λst x f E o T s=>aX E o T s st x f) (λxt x f E o T s=>cP E o T s xt x f) (λt x ix E o T s=>aY E o T s t x ix)
  (λxt x ix E o T s=>cU E o T s xt x ix) (λt x k ok E o T s=>bJ E o T s t x k ok) (λt m k v E o T s=>bh E o T s t m k v) (λt m k E o T s=>bK E o T s t m k)
  (λ_ m st v E o T s=>aZ E o T s m st v) (λt x E o T s=>dN E o T s t x) (λx isS E o T s=>fe E o T s x isS) (λx E o T s=>dH E o T s x)
  (λx xt t ok E o T s=>aN E o T s x xt t ok) (λt ix E o T s=>bz E o T s t ix) (λc E o T s=>bV E o T s c) (λ_ _ _ _ _=> .no 93) (λc E o T s=>cm E o T s c)
  (λx E o T s=>dB E o T s x) (λ_ _ _ _ _ _=> .no 93) (λ_ _ _ _ _ _ _=> .no 93) (λ_ _ _ _ _ _=> .no 93) op E o T st:=by rw[<-hop];rfl
 rw[hA]
 cases op
 case move x=>simp only[execOp,hop];exact fR hR hE (hg x (by simp[Op.operands]))
 case assign x=>simp only[execOp,hop];exact fR hR hE (hg x (by simp[Op.operands]))
 case pick c x y=>simp only[execOp,hop];exact jv hR hE (hg c (by simp[Op.operands])) (hg x (by simp[Op.operands])) (hg y (by simp[Op.operands]))
 case alloc t=>simp only[execOp,hop];exact iz hOK hR
 case box t x=>simp only[execOp,hop];exact j4 hR hE (hg x (by simp[Op.operands]))
 case build t ps=>simp only[execOp,hop];exact im hOK hR hE (λp hp=>hg p.2 (by simp[Op.operands];exact⟨p.1,hp⟩))
 case buildSlice t n ps=>simp only[execOp,hop];exact ep hOK hR hE (λp hp=>hg p.2 (by simp[Op.operands];exact⟨p.1,hp⟩))
 case insert t m k v=>simp only[execOp,hop];exact d9 hOK hR hE (hg m (by simp[Op.operands])) (hg k (by simp[Op.operands])) (hg v (by simp[Op.operands]))
 case load t x=>simp only[execOp,hop];exact jM hOK hR hE (hg x (by simp[Op.operands]))
 case store t x y=>simp only[execOp,hop];exact iL hOK hR hE (hg x (by simp[Op.operands])) (hg y (by simp[Op.operands]))
 case ready g=>exact hpure
 case waits g=>exact hpure
 case nilCheck x=>exact fE hR hE hop (hg x (by simp[Op.operands]))
 case binOp op t x y yt=>exact ip hOK hR hE ho hop (hg x (by simp[Op.operands])) (hg y (by simp[Op.operands]))
 case unOp op t x=>exact kw hR hE ho hop (hg x (by simp[Op.operands]))
 case convert s d x=>exact fX hOK hR hE ho hop (hg x (by simp[Op.operands]))
 case sliceToArrayPointer d x=>exact hpure
 case makeInterface t x=>simp only[execOp,hop];exact c8 hOK hR hE (hg x (by simp[Op.operands]))
 case makeFunc f xs ys=>simp only[execOp,hop];exact fD hR hE (λx hx=>hg x (by simp[Op.operands,hx])) (λx hx=>hg x (by simp[Op.operands,hx]))
 case makeMap t r=>simp only[execOp,hop];exact gv hOK hR hE (λx hx=>hg x (by simp[Op.operands,hx]))
 case makeChan t s=>trivial
 case makeSlice t l c=>simp only[execOp,hop];exact eZ hOK hR hE (hg l (by simp[Op.operands])) (hg c (by simp[Op.operands]))
 case slice t x lo hi mx=>exact iK hOK hR hE ho hop (hg x (by simp[Op.operands])) (λy hy=>hg y (by simp[Op.operands,hy])) (λy hy=>hg y (by simp[Op.operands,hy])) (λy hy=>hg y (by simp[Op.operands,hy]))
 case fieldAddr t x f=>simp only[execOp,hop];exact eU hOK hR hE (hg x (by simp[Op.operands]))
 case field t x f=>simp only[execOp,hop];exact iw hOK hR hE (hg x (by simp[Op.operands]))
 case indexAddr t x ix=>simp only[execOp,hop];exact fh hOK hR hE (hg x (by simp[Op.operands])) (hg ix (by simp[Op.operands]))
 case index t x ix=>exact iP hOK hR hE ho hop (hg x (by simp[Op.operands])) (hg ix (by simp[Op.operands]))
 case lookup t x k ok=>simp only[execOp,hop];exact hS hOK hR hE (hg x (by simp[Op.operands])) (hg k (by simp[Op.operands]))
 case mapUpdate t m k v=>simp only[execOp,hop];exact d9 hOK hR hE (hg m (by simp[Op.operands])) (hg k (by simp[Op.operands])) (hg v (by simp[Op.operands]))
 case mapEntry t m k=>simp only[execOp,hop];exact fG hOK hR hE (hg m (by simp[Op.operands])) (hg k (by simp[Op.operands]))
 case entryStore t m s v=>simp only[execOp,hop];exact ey hR hE (hg m (by simp[Op.operands])) (hg s (by simp[Op.operands])) (hg v (by simp[Op.operands]))
 case range t x=>simp only[execOp,hop];exact iy hOK hR hE (hg x (by simp[Op.operands]))
 case next x s=>simp only[execOp,hop];exact jC hR hE (hg x (by simp[Op.operands]))
 case entry x=>simp only[execOp,hop];exact ij hR hE (hg x (by simp[Op.operands]))
 case typeAssert x xt t ok=>exact em hOK hR hE ho hop (hg x (by simp[Op.operands]))
 case extract t i=>simp only[execOp,hop];exact gw hR hE (hg t (by simp[Op.operands]))
 case call c=>exact jH hOK hR hE ho hop
 case go c=>trivial
 case defer c=>simp only[execOp,hop];exact iT hR hE (λx hx=>hg x hx)
 case panic x=>simp only[execOp,hop];exact iq hR hE (hg x (by simp[Op.operands]))
 case send c x=>trivial
 case recv t c ok=>trivial
 case select cs b=>trivial
end
end
section
section
variable {E:Env} {G:aD} {ρ:aj} {st:St} {w:aa} {T T':Tr AV} {a:Act} {o:Z}
def cd (T T':Tr AV) (o:Z):Prop:=∀x∈o.op.operands,V T x=V T' x
theorem bQ (h:cd T T' o) (hs:cw o=true):ak E o T st=ak E o T' st:=by
 unfold ak
 have h1:(o.op.operands.all λx=>(V T x).toVal.isSome)=(o.op.operands.all λx=>(V T' x).toVal.isSome):=by
  rw[Bool.eq_iff_iff,Array.all_eq_true_iff_forall_mem,Array.all_eq_true_iff_forall_mem]
  exact⟨λg x hx=>by rw[<-h x hx];exact g x hx,λg x hx=>by rw[h x hx];exact g x hx⟩
 have h2:execOp (ie T) o=execOp (ie T') o:=execOp_congr o (fp hs) (λx hx=>by simp only[ie,h x hx])
 rw[h1,h2]
theorem eg {f:FuncId} {args:List AV} (h:cd T T' o) (hs:cw o=true):dk E o f args st T=dk E o f args st T':=by
 unfold dk
 rw[bQ h hs]
theorem gU {fv:AV} {args:List AV} (h:cd T T' o) (hs:cw o=true):c6 E o fv args st T=c6 E o fv args st T':=by
 unfold c6
 split
 ·exact eg h hs
 ·exact eg h hs
 ·rfl
 ·rfl
theorem iB {op:BinOp} {t:S} {u v:AV} (h:cd T T' o) (hs:cw o=true):j7 E o op t u v T st=j7 E o op t u v T' st:=by
 have hp:=bQ (E:=E) (st:=st) h hs
 have hV:∀u,aF E o op t u v T st=aF E o op t u v T' st:=λu=>by unfold aF;rw[hp]
 cases u<;>first|exact hV _|rfl|skip
 rename_i m
 show dI E o op m v T st=dI E o op m v T' st
 cases v<;>first|exact hp|rfl|skip
 rename_i n
 show a4 E o T st (dU op m n)=a4 E o T' st (dU op m n)
 cases dU op m n<;>first|exact hp|rfl
theorem cj {xs:List W} (h:∀x∈xs,V T x=V T' x):xs.map (V T)=xs.map (V T'):=List.map_congr_left h
theorem f5 {c:Call} (hop:o.op= .call c) (h:cd T T' o) (hs:cw o=true):bV E o T st c=bV E o T' st c:=by
 have hp:=bQ (E:=E) (st:=st) h hs
 have hx:∀x∈c.args.toList,V T x=V T' x:=λx hx=>h x (by rw[hop];simp[Op.operands,Call.operands];exact .inr (by simpa using hx))
 unfold bV
 cases hc:c.callee with
 |builtin b=>
  dsimp only
  rcases hl:c.args.toList with _|⟨x,_|⟨y,_|⟨z,l⟩⟩⟩
  ·cases b<;>first|exact hp|rfl
  ·have h1:V T x=V T' x:=hx x (by rw[hl];simp)
   rcases c.argTypes.toList with _|⟨t,_|⟨u,l⟩⟩<;>cases b<;>first|exact hp|rfl|simp only[hp,h1]
  ·have h1:V T x=V T' x:=hx x (by rw[hl];simp)
   have h2:V T y=V T' y:=hx y (by rw[hl];simp)
   rcases c.argTypes.toList with _|⟨t,_|⟨u,_|⟨t3,l⟩⟩⟩<;>cases b<;>first|exact hp|rfl|simp only[hp,h1,h2]
  ·cases b<;>first|exact hp|rfl
 |value f=>
  have hf:V T f=V T' f:=h f (by rw[hop];simp[Op.operands,Call.operands,hc])
  dsimp only
  rw[hf,cj hx,gU h hs]
 |invoke r m=>rfl
theorem cI {ps:Array (Nat×W)} (h:∀p∈ps,V T p.2=V T' p.2):(ps.toList.map λ(i,x)=>(i,V T x))=(ps.toList.map λ(i,x)=>(i,V T' x)):=by
 apply List.map_congr_left
 intro p hp
 obtain⟨i,x⟩:=p
 simp only[h (i,x) (by simpa using hp)]
theorem b3 (h:cd T T' o) (hs:cw o=true):an E o T st=an E o T' st:=by
 have hp:=bQ (E:=E) (st:=st) h hs
 have hb:=λop t u v=>iB (E:=E) (st:=st) (op:=op) (t:=t) (u:=u) (v:=v) h hs
 have hcall:=λc (hc:o.op= .call c)=>f5 (E:=E) (st:=st) hc h hs
 unfold cd at h
 obtain⟨dst,op,ty,pos,af,gd⟩:=o
 simp only at h hcall
 cases op<;>simp only[Op.operands]at h
 case move x=>simp only[an,c9,h x (by simp)]
 case assign x=>simp only[an,c9,h x (by simp)]
 case pick c x y=>simp only[an,dX,h c (by simp),h x (by simp),h y (by simp)]
 case alloc t=>rfl
 case box t x=>simp only[an,eF,h x (by simp)]
 case build t ps=>simp only[an,cO,cI (T:=T) (T':=T') (ps:=ps) (λp hp'=>h p.2 (by simp;exact⟨p.1,hp'⟩))]
 case buildSlice t n ps=>simp only[an,aC,cI (T:=T) (T':=T') (ps:=ps) (λp hp'=>h p.2 (by simp;exact⟨p.1,hp'⟩))]
 case insert t m k v=>simp only[an,bh,h m (by simp),h k (by simp),h v (by simp)]
 case load t x=>simp only[an,c7,h x (by simp)]
 case store t x y=>simp only[an,dy,h x (by simp),h y (by simp)]
 case ready g=>exact hp
 case waits g=>exact hp
 case nilCheck x=>simp only[an,bf,h x (by simp)]
 case binOp op t x y yt=>simp only[an,bP,h x (by simp),h y (by simp),hb]
 case unOp op t x=>simp only[an,jz,h x (by simp),hp]
 case convert s d x=>simp only[an,b6,h x (by simp),hp]
 case sliceToArrayPointer d x=>exact hp
 case makeInterface t x=>simp only[an,ap,h x (by simp)]
 case makeFunc f xs ys=>simp only[an,bc,cj (T:=T) (T':=T') (xs:=xs.toList) (λx hx=>h x (by simp at hx⊢;exact .inl hx)),cj (T:=T) (T':=T') (xs:=ys.toList) (λx hx=>h x (by simp at hx⊢;exact .inr hx))]
 case makeMap t r=>cases r with
  |none=>rfl
  |some x=>simp only[an,bZ,h x (by simp)]
 case makeChan t s=>rfl
 case makeSlice t l c=>simp only[an,aI,h l (by simp),h c (by simp)]
 case slice t x lo hi mx=>
  have hm:∀(z:Option W),(∀y,z=F y->V T y=V T' y)->z.map (V T)=z.map (V T'):=λz hz=>by
   cases z with
   |none=>rfl
   |some y=>simp[hz y rfl]
  simp only[an,cT,h x (by simp),hp,hm lo (λy hy=>h y (by simp[hy])),hm hi (λy hy=>h y (by simp[hy])),hm mx (λy hy=>h y (by simp[hy]))]
 case fieldAddr t x f=>simp only[an,aX,h x (by simp)]
 case field t x f=>simp only[an,cP,h x (by simp)]
 case indexAddr t x ix=>simp only[an,aY,h x (by simp),h ix (by simp)]
 case index t x ix=>simp only[an,cU,h x (by simp),h ix (by simp),hp]
 case lookup t x k ok=>simp only[an,bJ,h x (by simp),h k (by simp)]
 case mapUpdate t m k v=>simp only[an,bh,h m (by simp),h k (by simp),h v (by simp)]
 case mapEntry t m k=>simp only[an,bK,h m (by simp),h k (by simp)]
 case entryStore t m s v=>simp only[an,aZ,h m (by simp),h s (by simp),h v (by simp)]
 case range t x=>simp only[an,dN,h x (by simp)]
 case next x s=>simp only[an,fe,h x (by simp)]
 case entry x=>simp only[an,dH,h x (by simp)]
 case typeAssert x xt t ok=>simp only[an,aN,h x (by simp),hp]
 case extract t i=>simp only[an,bz,h t (by simp)]
 case call c=>exact hcall c rfl
 case go c=>rfl
 case defer c=>
  have hx:∀x∈c.args.toList,V T x=V T' x:=λx hx=>h x (by simp[Call.operands];exact .inr (by simpa using hx))
  simp only[an,cm,cj hx]
  cases hc:c.callee with
  |value f=>simp only[h f (by simp[Call.operands,hc])]
  |builtin b=>rfl
  |invoke r m=>rfl
 case panic x=>simp only[an,dB,h x (by simp)]
 case send c x=>rfl
 case recv t c ok=>rfl
 case select cs b=>rfl
end
end
section
def At (b:Frame) (ar:Option Nat) (a:Act) (todo:List Item):Frame:=
 {fn:=b.fn,tmps:=a.tmps,todo,defers:=a.defers,mode:= .run,kind:=b.kind,roundOf:=ar}
theorem jd (b:Frame) (ar:Option Nat) (a:Act) (todo:List Item) (x:W):(At b ar a todo).eval x=a.eval x:=by cases x<;>rfl
theorem gX (b:Frame) (ar:Option Nat) (a:Act) (todo:List Item):(At b ar a todo).eval=a.eval:=funext (jd b ar a todo)
theorem aH (b:Frame) (ar:Option Nat) (a:Act) (ops:Array Z) (i:Nat) (rest:List Nat) (k:List Item) (v:N):
  (At b ar a (.inRegion ops (i :: rest) :: k)).finish v=At b ar (a.put ((ops[i]?).bind (·.dst)) v) (.inRegion ops rest :: k):=by
 cases h:(ops[i]?).bind (·.dst)<;>simp[Frame.finish,At,Act.put,h]
theorem cF (b:Frame) (ar:Option Nat) (a:Act) (todo:List Item) (chain:List PanicEntry):
  (At b ar a todo).raise chain={At b ar a todo with mode:= .panicking chain}:=rfl
section
variable {P:Program} {b:Frame} {ar:Option Nat} {a:Act} {k:List Item} {cs:List Frame} {w:aa} {ops:Array Z}
theorem kI:step P (lone (At b ar a (.code .skip :: k)) cs w)= .next (lone (At b ar a k) cs w):=step_lone_go (by simp[stepG,stepG.exec,At])
theorem j5 {l:Nat}:step P (lone (At b ar a (.code (.label l) :: k)) cs w)= .next (lone (At b ar a k) cs w):=step_lone_go (by simp[stepG,stepG.exec,At])
theorem iG {id:Nat}:step P (lone (At b ar a (.inBlock id :: k)) cs w)= .next (lone (At b ar a k) cs w):=step_lone_go (by simp[stepG,stepG.exec,At])
theorem iU {c:Code}:step P (lone (At b ar a (.inScope c :: k)) cs w)= .next (lone (At b ar a k) cs w):=step_lone_go (by simp[stepG,stepG.exec,At])
theorem kZ {x y:Code}:step P (lone (At b ar a (.code (.seq x y) :: k)) cs w)= .next (lone (At b ar a (.code x :: .code y :: k)) cs w):=step_lone_go (by simp[stepG,stepG.exec,At])
theorem kN {c:W} {x y:Code} {t:Bool} (h:a.eval c= .bool t):step P (lone (At b ar a (.code (.cond c x y) :: k)) cs w)= .next (lone (At b ar a (.code (if t then x else y) :: k)) cs w):=
 step_lone_go (by
  have:=jd b ar a (.code (.cond c x y) :: k) c
  simp only[At]at this
  simp[stepG,stepG.exec,At,this,h])
theorem ko {id:Nat} {c:Code}:step P (lone (At b ar a (.code (.block id c) :: k)) cs w)= .next (lone (At b ar a (.code c :: .inBlock id :: k)) cs w):=step_lone_go (by simp[stepG,stepG.exec,At])
theorem kJ {c:Code}:step P (lone (At b ar a (.code (.loop c) :: k)) cs w)= .next (lone (At b ar a (.code c :: .inLoop c :: k)) cs w):=step_lone_go (by simp[stepG,stepG.exec,At])
theorem jJ {c:Code}:step P (lone (At b ar a (.inLoop c :: k)) cs w)= .next (lone (At b ar a (.code c :: .inLoop c :: k)) cs w):=step_lone_go (by simp[stepG,stepG.exec,At])
theorem j1 {c:Code}:step P (lone (At b ar a (.code (.scope c) :: k)) cs w)= .next (lone (At b ar a (.code c :: .inScope c :: k)) cs w):=step_lone_go (by simp[stepG,stepG.exec,At])
theorem kK {id:Nat} {k':List Item} (h:exitTo id k=F k'):step P (lone (At b ar a (.code (.exit id) :: k)) cs w)= .next (lone (At b ar a k') cs w):=step_lone_go (by simp[stepG,stepG.exec,At,h])
theorem ki:step P (lone (At b H a (.code .ret :: k)) cs w)= .next (lone {At b H a (.code .ret :: k)with mode:= .returning} cs w):=step_lone_go (by simp[stepG,stepG.exec,At])
theorem kj:step P (lone (At b H a []) cs w)= .next (lone {At b H a []with mode:= .returning} cs w):=step_lone_go (by simp[stepG,stepG.exec,At])
theorem jL {id:Nat}:step P (lone (At b ar a (.code (.region id ops false) :: k)) cs w)= .next (lone (At b ar a (.inRegion ops (List.range ops.size) :: k)) cs w):=step_lone_go (by simp[stepG,stepG.exec,At])
theorem eR {id:Nat}:step P (lone (At b ar a (.code (.region id ops true) :: k)) cs w)=
   .next (lone (At b ar a (.inRegion ops (Region.schedule (P.follows .mixedOrders) ops (w.tape w.drawn (.order b.fn id))) :: k)) cs {w with drawn:=w.drawn+1}):=
 step_lone_go (by simp[stepG,stepG.exec,At,choose,Sem.run,Question.forced,Question.cut])
theorem bW:step P (lone (At b ar a (.inRegion ops [] :: k)) cs w)= .next (lone (At b ar a k) cs w):=step_lone_go (by simp[stepG,stepG.exec,At])
theorem dg {i:Nat} {rest:List Nat} (h:((ops[i]?).map (Region.wanted · (yielded ops a.tmps))).getD false=false):
  step P (lone (At b ar a (.inRegion ops (i :: rest) :: k)) cs w)= .next (lone (At b ar (a.put ((ops[i]?).bind (·.dst)) undef) (.inRegion ops rest :: k)) cs w):=by
 rw[<-aH]
 exact step_lone_go (by
  have h':=h
  simp only[At]at *
  simp[stepG,stepG.exec,h'])
theorem aW {i:Nat} {rest:List Nat} {o:Z} (ho:ops[i]?=F o) (hw:Region.wanted o (yielded ops a.tmps)=true) (hd:ar=H\/∀c,o.op≠ .defer c):
  stepG P true {frame:=At b ar a (.inRegion ops (i :: rest) :: k),callers:=cs,status:= .running,dying:=H} w=
   stepG.apply P true (At b ar a (.inRegion ops (i :: rest) :: k)) cs H (execOp a.eval o) w:=by
 have he:=gX b ar a (.inRegion ops (i :: rest) :: k)
 simp only[At]at he
 rcases hd with rfl|hd
 ·simp[stepG,stepG.exec,stepG.oper,Frame.oper?,At,ho,hw,he]
 ·cases ar with
  |none=>simp[stepG,stepG.exec,stepG.oper,Frame.oper?,At,ho,hw,he]
  |some l=>
   simp only[stepG,stepG.exec,stepG.oper,Frame.oper?,At,ho,Option.map_some,hw,Option.getD_some,if_true]
   split
   ·rename_i h1 h2
    exact absurd h2 (hd _)
   ·simp only[he]
theorem dx {i:Nat} {rest:List Nat} {o:Z} {v:N} {w':aa} (ho:ops[i]?=F o) (hw:Region.wanted o (yielded ops a.tmps)=true) (hd:ar=H\/∀c,o.op≠ .defer c)
  (hr:(execOp a.eval o).run P w= .ok (.value v) w'):step P (lone (At b ar a (.inRegion ops (i :: rest) :: k)) cs w)= .next (lone (At b ar (a.put o.dst v) (.inRegion ops rest :: k)) cs w'):=by
 have hf:=aH b ar a ops i rest k v
 rw[ho]at hf
 refine step_lone_go ?_
 rw[aW ho hw hd]
 simp only[stepG.apply,Sem.runT_eq,hr,if_true,GStep.bare_after,GStep.bare_go]
 rw[hf];rfl
theorem fi {i:Nat} {rest:List Nat} {o:Z} {w':aa} (ho:ops[i]?=F o) (hw:Region.wanted o (yielded ops a.tmps)=true) (hd:ar=H\/∀c,o.op≠ .defer c)
  (hr:(execOp a.eval o).run P w= .ok .skip w'):step P (lone (At b ar a (.inRegion ops (i :: rest) :: k)) cs w)= .next (lone (At b ar (a.put o.dst undef) (.inRegion ops rest :: k)) cs w'):=by
 have hf:=aH b ar a ops i rest k undef
 rw[ho]at hf
 refine step_lone_go ?_
 rw[aW ho hw hd]
 simp only[stepG.apply,Sem.runT_eq,hr,if_true,GStep.bare_after,GStep.bare_go]
 rw[hf];rfl
theorem gD {i:Nat} {rest:List Nat} {o:Z} {f:FuncId} {args:Array N} {w':aa} (ho:ops[i]?=F o) (hw:Region.wanted o (yielded ops a.tmps)=true) (hd:ar=H\/∀c,o.op≠ .defer c)
  (hr:(execOp a.eval o).run P w= .ok (.enter f args) w'):
  step P (lone (At b ar a (.inRegion ops (i :: rest) :: k)) cs w)= .next (lone (Frame.enter P f args .normal) (At b ar a (.inRegion ops (i :: rest) :: k) :: cs) w'):=by
 refine step_lone_go ?_
 rw[aW ho hw hd]
 simp[stepG.apply,hr,At]
theorem hJ {i:Nat} {rest:List Nat} {o:Z} {l:Nat} {f:FuncId} {tmps:Array N} {as bd:Code} {w':aa} (ho:ops[i]?=F o) (hw:Region.wanted o (yielded ops a.tmps)=true) (hd:ar=H\/∀c,o.op≠ .defer c)
  (hr:(execOp a.eval o).run P w= .ok (.round l f tmps as bd) w'):
  step P (lone (At b ar a (.inRegion ops (i :: rest) :: k)) cs w)= .next (lone (Frame.round l f tmps as bd .normal) (At b ar a (.inRegion ops (i :: rest) :: k) :: cs) w'):=by
 refine step_lone_go ?_
 rw[aW ho hw hd]
 simp[stepG.apply,hr,At]
theorem j6 {i:Nat} {rest:List Nat} {o:Z} {d:Deferred} {w':aa} (ho:ops[i]?=F o) (hw:Region.wanted o (yielded ops a.tmps)=true)
  (hr:(execOp a.eval o).run P w= .ok (.defer d) w'):
  step P (lone (At b H a (.inRegion ops (i :: rest) :: k)) cs w)= .next (lone (At b H ({a with defers:=d :: a.defers}.put o.dst undef) (.inRegion ops rest :: k)) cs w'):=by
 have hf:=aH b H {a with defers:=d :: a.defers} ops i rest k undef
 rw[ho]at hf
 refine step_lone_go ?_
 rw[aW ho hw (.inl rfl)]
 simp only[stepG.apply,Sem.runT_eq,hr,if_true,GStep.bare_after,GStep.bare_go]
 exact congrArg (λfr=>GStep.go {frame:=fr,callers:=cs,status:= .running,dying:=H} w') hf
theorem ek {i:Nat} {rest:List Nat} {o:Z} {w':aa} (ho:ops[i]?=F o) (hw:Region.wanted o (yielded ops a.tmps)=true)
  (hr:(execOp a.eval o).run P w= .ok .recover w') (ht:tryRecover (At b H a (.inRegion ops (i :: rest) :: k)) cs=H):
  step P (lone (At b H a (.inRegion ops (i :: rest) :: k)) cs w)= .next (lone (At b H (a.put o.dst .nilIface) (.inRegion ops rest :: k)) cs w'):=by
 have hf:=aH b H a ops i rest k .nilIface
 rw[ho]at hf
 refine step_lone_go ?_
 rw[aW ho hw (.inl rfl)]
 simp only[stepG.apply,Sem.runT_eq,hr,if_true,GStep.bare_after]
 have hro:(At b H a (.inRegion ops (i :: rest) :: k)).roundOf=H:=rfl
 simp only[hro,ht,GStep.bare_go]
 rw[hf];rfl
theorem ej {i:Nat} {rest:List Nat} {o:Z} {w':aa} {v:N} {cs':List Frame} (ho:ops[i]?=F o) (hw:Region.wanted o (yielded ops a.tmps)=true)
  (hr:(execOp a.eval o).run P w= .ok .recover w') (ht:tryRecover (At b H a (.inRegion ops (i :: rest) :: k)) cs=F (v,cs')):
  step P (lone (At b H a (.inRegion ops (i :: rest) :: k)) cs w)= .next (lone (At b H (a.put o.dst v) (.inRegion ops rest :: k)) cs' w'):=by
 have hf:=aH b H a ops i rest k v
 rw[ho]at hf
 refine step_lone_go ?_
 rw[aW ho hw (.inl rfl)]
 simp only[stepG.apply,Sem.runT_eq,hr,if_true,GStep.bare_after]
 have hro:(At b H a (.inRegion ops (i :: rest) :: k)).roundOf=H:=rfl
 simp only[hro,ht,GStep.bare_go]
 rw[hf];rfl
theorem gZ {i:Nat} {rest:List Nat} {o:Z} {w':aa} {v:N} (ho:ops[i]?=F o) (hw:Region.wanted o (yielded ops a.tmps)=true) (hd:ar=H\/∀c,o.op≠ .defer c)
  (hr:(execOp a.eval o).run P w= .halt (.panic v) w'):
  step P (lone (At b ar a (.inRegion ops (i :: rest) :: k)) cs w)= .next (lone {At b ar a (.inRegion ops (i :: rest) :: k)with mode:= .panicking [{v,recovered:=false}]} cs w'):=by
 refine step_lone_go ?_
 rw[aW ho hw hd]
 simp only[stepG.apply,Sem.runT_eq,hr,if_true,GStep.bare_after,GStep.bare_go]
 rfl
theorem ga {f:W} {ps:Array Tmp} {as bd:Code} {l:Nat} {mark:List Deferred} {w1 w2:aa} {g:FuncId} {args:Array N} (h1:(Instr.enterLoop b.fn a.tmps ps as bd ar).run P w= .ok (l,mark) w1)
  (h2:(do let d<-resolve (At b ar {a with defers:=mark++a.defers} (.inRangeFunc l :: k)).eval {callee:= .value f,args:=#[.const (.func (.yield l) #[] #[])],argTypes:=#[]} 0;invoke d.target d.args:Sem Next).run P w1= .ok (.enter g args) w2):
  step P (lone (At b ar a (.code (.rangeFunc f ps as bd) :: k)) cs w)= .next (lone (Frame.enter P g args .normal) (At b ar {a with defers:=mark++a.defers} (.inRangeFunc l :: k) :: cs) w2):=by
 refine step_lone_go ?_
 simp only[stepG,At,stepG.exec,Sem.runT_eq,h1,GStep.bare_after]
 simp only[At]at h2
 simp only[stepG.apply,Sem.runT_eq,h2,if_true,GStep.bare_after]
 rfl
theorem gF {l:Nat} {jump:Option Code} {w1:aa} (h1:(Instr.endLoop l).run P w= .ok jump w1):
  step P (lone (At b ar a (.endRangeFunc l :: k)) cs w)= .next (lone (At b ar a ((jump.map Item.code).toList++k)) cs w1):=by
 refine step_lone_go ?_
 simp only[stepG,At,stepG.exec,Sem.runT_eq,h1,GStep.bare_after,GStep.bare_go]
theorem eT {l:Nat} (v:N):(At b ar a (.inRangeFunc l :: k)).finish v=At b ar a (.endRangeFunc l :: k):=rfl
theorem fx {l:Nat} {w1:aa} (h1:(Instr.beginRound l).run P w= .ok () w1):
  step P (lone (At b (F l) a (.beginRound :: k)) cs w)= .next (lone (At b (F l) a k) cs w1):=by
 refine step_lone_go ?_
 simp only[stepG,At,stepG.exec,stepG.apply,Sem.runT_eq,Option.elim,J,h1,I,O,if_true,GStep.bare_after,GStep.bare_go]
 rfl
theorem fC {l:Nat} {jump:Option Code} {todo:List Item} {c:Frame} {v:N} {w1:aa} (hk:b.kind= .normal)
  (ht:(todo=[]/\jump=H)\/(∃k,todo= .code .ret :: k/\jump=F .ret)\/(∃id k,todo= .code (.exit id) :: k/\exitTo id k=H/\jump=F (.exit id)))
  (h1:(Instr.endRound l jump).run P w= .ok v w1):
  step P (lone (At b (F l) a todo) (c :: cs) w)= .next (lone (c.finish v) cs w1):=by
 refine step_lone_go ?_
 rcases ht with⟨rfl,rfl⟩|⟨k,rfl,rfl⟩|⟨id,k,rfl,he,rfl⟩
 ·simp only[stepG,At,stepG.exec,Sem.runT_eq,h1,GStep.bare_after,doReturn,hk,GStep.bare_go]
 ·simp only[stepG,At,stepG.exec,Sem.runT_eq,h1,GStep.bare_after,doReturn,hk,GStep.bare_go]
 ·simp only[stepG,At,stepG.exec,he,Option.elim,Sem.runT_eq,h1,GStep.bare_after,doReturn,hk,GStep.bare_go]
theorem fB {l:Nat} {todo:List Item} {c:Frame} {chain:List PanicEntry} (hd:a.defers=[]) (hf:∃fn,P.funcs[b.fn]?=F fn):
  step P (lone {At b (F l) a todo with mode:= .panicking chain} (c :: cs) w)= .next (lone (c.raise chain) cs w):=by
 obtain⟨fn,hf⟩:=hf
 exact step_lone_go (by simp[stepG,unwind,Frame.catches,At,hd,hf])
theorem eu {fr:Frame} {r:Nat} {ar:Array N} {ds l:List Deferred} {w1:aa} (hm:fr.mode≠ .run) (hd:fr.defers={target:= .collected r,args:=ar} :: ds) (h1:(Instr.takeDeferred r).run P w= .ok l w1):
  step P (lone fr cs w)= .next (lone {fr with defers:=l++ds} cs w1):=by
 refine step_lone_go ?_
 cases hmode:fr.mode with
 |run=>exact absurd hmode hm
 |returning=>simp[stepG,unwind,hmode,hd,h1]
 |panicking chain=>simp[stepG,unwind,hmode,hd,h1]
end
end
section
def jA (n:Nat) (d:Option Tmp):Bool:=match d with|some t=>Nat.blt t n|none=>true
theorem ja {n m:Nat} {d:Option Tmp} (h:jA n d=true) (hm:n<=m):kR m d:=by
 intro t ht
 subst ht
 have:t<n:=by simpa[jA,Nat.blt_eq]using h
 exact Nat.lt_of_lt_of_le this hm
def cW (g n:Nat) (o:Z):Bool:=ao g o&&jA n o.dst
def goodC (D:Array Z->Bool) (g n:Nat):Code->Bool
 | .region _ ops d=>ops.all (cW g n)&&(!d||D ops)
 | .seq a b=>goodC D g n a&&goodC D g n b
 | .cond c a b=>ac g c&&goodC D g n a&&goodC D g n b
 | .block _ b| .loop b| .scope b=>goodC D g n b
 | .rangeFunc f ps a b=>ac g f&&ps.all (λt=>Nat.blt t n)&&goodC D g n a&&goodC D g n b
 |_=>true
theorem jG {g n m:Nat} {o:Z} (h:cW g n o=true) (hm:n<=m):cW g m o=true:=by
 unfold cW at *
 simp at *
 refine⟨h.1,?_⟩
 cases hd:o.dst with
 |none=>rfl
 |some t=>
  have h2:=h.2
  rw[hd]at h2
  have:t<n:=by simpa[jA,Nat.blt_eq]using h2
  simp only[jA,Nat.blt_eq];exact Nat.lt_of_lt_of_le this hm
theorem fb {D:Array Z->Bool} {g n m:Nat} (hm:n<=m):∀{c:Code},goodC D g n c=true->goodC D g m c=true:=by
 intro c
 induction c with
 |region id ops d=>
  intro h
  simp only[goodC,Q]at *
  refine⟨?_,h.2⟩
  rw[Array.all_eq_true_iff_forall_mem]at *
  exact λo ho=>jG (h.1 o ho) hm
 |seq a b ha hb=>intro h;simp only[goodC,Q]at *;exact⟨ha h.1,hb h.2⟩
 |cond c a b ha hb=>intro h;simp only[goodC,Q]at *;exact⟨⟨h.1.1,ha h.1.2⟩,hb h.2⟩
 |block _ b ih=>intro h;simp only[goodC]at *;exact ih h
 |loop b ih=>intro h;simp only[goodC]at *;exact ih h
 |scope b ih=>intro h;simp only[goodC]at *;exact ih h
 |rangeFunc f ps a b ha hb=>
  intro h
  simp only[goodC,Q]at *
  refine⟨⟨⟨h.1.1.1,?_⟩,ha h.1.2⟩,hb h.2⟩
  have h2:=h.1.1.2
  rw[Array.all_eq_true_iff_forall_mem]at *
  intro t ht
  have h3:=h2 t ht
  simp at h3⊢
  exact Nat.lt_of_lt_of_le h3 hm
 |_=>intro _;rfl
def GE (D:Array Z->Bool) (E:Env):aD:=λn c=>goodC D E.P.globals.size n c=true
structure BOK (D:Array Z->Bool) (E:Env):Prop where
 body:∀f fn c,E.fn f=F fn->fn.body=F c->goodC D E.P.globals.size fn.ntmps c=true
 plug:∀f p,E.plug f=F p->∀args st v,p args st=F v->∀(ρ:aj) (w:aa) xs,Rel E (GE D E) ρ st w.heap->VRs ρ args xs->
  Calls E.P f ⟨xs⟩ w λe w'=>∃x ρ',e= .returned x/\VR ρ' v.1 x/\Mv E (GE D E) ρ st w ρ' v.2 w'
def co (ρ:aj):List APan->List PanicEntry->Prop
 |[],[]=>True
 |a :: as,p :: ps=>(VR ρ a.v p.v/\p.recovered=a.recovered/\p.goexit=false)/\co ρ as ps
 |_,_=>False
theorem co.mono {ρ ρ':aj} (le:Le ρ ρ'):∀{as:List APan} {ps:List PanicEntry},co ρ as ps->co ρ' as ps
 |[],[],_=>trivial
 |_ :: _,_ :: _,h=>⟨⟨h.1.1.mono le,h.1.2⟩,co.mono le h.2⟩
 |[],_ :: _,h=>h.elim
 |_ :: _,[],h=>h.elim
theorem co.append {ρ:aj}:∀{as bs:List APan} {ps qs:List PanicEntry},co ρ as ps->co ρ bs qs->co ρ (as++bs) (ps++qs)
 |[],_,[],_,_,h=>h
 |_ :: _,_,_ :: _,_,h,h'=>⟨h.1,co.append h.2 h'⟩
 |[],_,_ :: _,_,h,_=>h.elim
 |_ :: _,_,[],_,h,_=>h.elim
def aO (ρ:aj):AMode->FrameMode->Prop
 | .returning,m=>m= .returning
 | .panicking c,m=>∃l,m= .panicking l/\co ρ c l
theorem aO.mono {ρ ρ':aj} (le:Le ρ ρ') {u:AMode} {m:FrameMode} (h:aO ρ u m):aO ρ' u m:=by
 cases u with
 |returning=>exact h
 |panicking c=>obtain⟨l,h1,h2⟩:=h;exact⟨l,h1,h2.mono le⟩
def UR (ρ:aj) (b:Frame):Option AMode->List Frame->Prop
 |none,_=>b.kind= .normal
 |some m,cs=>b.kind= .deferred/\∃c cs0,cs=c :: cs0/\aO ρ m c.mode
theorem UR.mono {ρ ρ':aj} (le:Le ρ ρ') {b:Frame} {u:Option AMode} {cs:List Frame} (h:UR ρ b u cs):UR ρ' b u cs:=by
 cases u with
 |none=>exact h
 |some m=>obtain⟨h1,c,cs0,h2,h3⟩:=h;exact⟨h1,c,cs0,h2,h3.mono le⟩
def k9 (u:Option AMode) (cs cs':List Frame):Prop:=
 cs'=cs\/(u.isSome=true/\∃c cs0 m',cs=c :: cs0/\cs'={c with mode:=m'} :: cs0)
theorem k9.trans {u u':Option AMode} (hu:u'.isSome=u.isSome) {cs cs' cs'':List Frame} (h:k9 u cs cs') (h':k9 u' cs' cs''):k9 u cs cs'':=by
 rcases h with rfl|⟨h1,c,cs0,m',rfl,rfl⟩
 ·rcases h' with rfl|⟨h1',h2⟩
  ·exact .inl rfl
  ·exact .inr ⟨hu▸h1',h2⟩
 ·rcases h' with rfl|⟨_,c',cs0',m'',h2,rfl⟩
  ·exact .inr ⟨h1,c,cs0,m',rfl,rfl⟩
  ·injection h2 with h2 h3
   subst h2;subst h3
   exact .inr ⟨h1,c,cs0,m'',rfl,rfl⟩
structure Mw (E:Env) (G:aD) (ρ:aj) (st:St) (w:aa) (ρ':aj) (st':St) (w':aa):Prop where
 rel:Rel E G ρ' st' w'.heap
 ext:Ext ρ st w.heap ρ' st' w'.heap
 same:Same w w'
theorem Mv.mw {E:Env} {G:aD} {ρ ρ':aj} {st st':St} {w w':aa} (h:Mv E G ρ st w ρ' st' w'):Mw E G ρ st w ρ' st' w':=⟨h.rel,h.ext,h.same⟩
theorem Mw.refl {E:Env} {G:aD} {ρ:aj} {st:St} {w:aa} (r:Rel E G ρ st w.heap):Mw E G ρ st w ρ st w:=(Mv.refl r).mw
theorem Mw.trans {E:Env} {G:aD} {ρ ρ' ρ'':aj} {st st' st'':St} {w w' w'':aa} (a:Mw E G ρ st w ρ' st' w') (b:Mw E G ρ' st' w' ρ'' st'' w''):Mw E G ρ st w ρ'' st'' w'':=
 ⟨b.rel,a.ext.trans b.ext,a.same.trans b.same⟩
theorem Mw.withR {E:Env} {G:aD} {ρ ρ':aj} {st st':St} {w w':aa} (h:Mw E G ρ st w ρ' st' w') (u':Option AMode):Mw E G ρ st w ρ' {st' with u:=u'} w':=
 ⟨h.rel.withU _,h.ext.withU st.u u',h.same⟩
theorem Mw.withL {E:Env} {G:aD} {ρ ρ':aj} {st st':St} {w w':aa} {u:Option AMode} (h:Mw E G ρ {st with u:=u} w ρ' st' w'):Mw E G ρ st w ρ' st' w':=
 ⟨h.rel,⟨h.ext.mono,h.ext.old,h.ext.virt,h.ext.n,h.ext.size,h.ext.keep,h.ext.dom⟩,h.same⟩
structure Sit (D:Array Z->Bool) (E:Env) (ρ:aj) (b:Frame) (n:Nat) (T:Tr AV) (df:List ADef) (st:St) (a:Act) (w:aa) (cs:List Frame):Prop where
 rel:Rel E (GE D E) ρ st w.heap
 er:ER ρ T a.tmps
 n:n<=a.tmps.size
 df:fN ρ df a.defers
 ur:UR ρ b st.u cs
structure To (D:Array Z->Bool) (E:Env) (ρ:aj) (b:Frame) (n:Nat) (st:St) (w:aa) (cs:List Frame) (ρ':aj) (T':Tr AV) (df':List ADef) (st':St) (a':Act) (w':aa) (cs':List Frame):Prop where
 sit:Sit D E ρ' b n T' df' st' a' w' cs'
 mw:Mw E (GE D E) ρ st w ρ' st' w'
 cs:k9 st.u cs cs'
 u:st'.u.isSome=st.u.isSome
theorem To.trans {D:Array Z->Bool} {E:Env} {ρ ρ' ρ'':aj} {b:Frame} {n:Nat} {st st' st'':St} {w w' w'':aa} {cs cs' cs'':List Frame} {T' T'':Tr AV} {df' df'':List ADef} {a' a'':Act}
  (h:To D E ρ b n st w cs ρ' T' df' st' a' w' cs') (h':To D E ρ' b n st' w' cs' ρ'' T'' df'' st'' a'' w'' cs''):To D E ρ b n st w cs ρ'' T'' df'' st'' a'' w'' cs'':=
 ⟨h'.sit,h.mw.trans h'.mw,h.cs.trans h.u h'.cs,h'.u.trans h.u⟩
theorem To.refl {D:Array Z->Bool} {E:Env} {ρ:aj} {b:Frame} {n:Nat} {T:Tr AV} {df:List ADef} {st:St} {a:Act} {w:aa} {cs:List Frame} (h:Sit D E ρ b n T df st a w cs):
  To D E ρ b n st w cs ρ T df st a w cs:=⟨h,Mw.refl h.rel, .inl rfl,rfl⟩
def ah (D:Array Z->Bool) (E:Env) (ρ:aj) (b:Frame) (car:Option Nat) (n:Nat) (k:List Item) (st:St) (w:aa) (cs:List Frame) (m:Machine):Out->Prop
 | .normal T df st'=>∃ρ' a' w' cs',To D E ρ b n st w cs ρ' T df st' a' w' cs'/\Steps E.P m (lone (At b car a' k) cs' w')
 | .exit id T df st'=>∃ρ' a' w' cs' k',To D E ρ b n st w cs ρ' T df st' a' w' cs'/\exitTo id k'=exitTo id k/\Steps E.P m (lone (At b car a' (.code (.exit id) :: k')) cs' w')
 | .ret T df st'=>∃ρ' a' w' cs' k',To D E ρ b n st w cs ρ' T df st' a' w' cs'/\Steps E.P m (lone (At b car a' (.code .ret :: k')) cs' w')
 | .panic c T df st'=>∃ρ' a' w' cs' todo chain,To D E ρ b n st w cs ρ' T df st' a' w' cs'/\co ρ' c chain/\Steps E.P m (lone {At b car a' todo with mode:= .panicking chain} cs' w')
 |_=>True
theorem ah.after {D:Array Z->Bool} {E:Env} {ρ ρ':aj} {b:Frame} {car:Option Nat} {n:Nat} {k k1:List Item} {st st':St} {w w':aa} {cs cs':List Frame} {m m':Machine} {T':Tr AV} {df':List ADef} {a':Act} {o:Out}
  (ht:To D E ρ b n st w cs ρ' T' df' st' a' w' cs') (hs:Steps E.P m m') (h:ah D E ρ' b car n k1 st' w' cs' m' o) (hk:∀T df s,o= .normal T df s->k1=k) (he:∀id T df s,o= .exit id T df s->exitTo id k1=exitTo id k):
  ah D E ρ b car n k st w cs m o:=by
 cases o with
 |no w=>trivial
 |val v s=>trivial
 |normal T df s=>obtain⟨ρ2,a2,w2,cs2,h1,h2⟩:=h;have:=hk T df s rfl;subst this;exact⟨ρ2,a2,w2,cs2,ht.trans h1,hs.trans h2⟩
 |exit id T df s=>obtain⟨ρ2,a2,w2,cs2,k2,h1,h2,h3⟩:=h;exact⟨ρ2,a2,w2,cs2,k2,ht.trans h1,h2.trans (he id T df s rfl),hs.trans h3⟩
 |ret T df s=>obtain⟨ρ2,a2,w2,cs2,k2,h1,h2⟩:=h;exact⟨ρ2,a2,w2,cs2,k2,ht.trans h1,hs.trans h2⟩
 |panic c T df s=>obtain⟨ρ2,a2,w2,cs2,k2,ch,h1,h2,h3⟩:=h;exact⟨ρ2,a2,w2,cs2,k2,ch,ht.trans h1,h2,hs.trans h3⟩
theorem ah.step {D:Array Z->Bool} {E:Env} {ρ:aj} {b:Frame} {car:Option Nat} {n:Nat} {k:List Item} {st:St} {w:aa} {cs:List Frame} {m m':Machine} {o:Out}
  (hs:step E.P m= .next m') (h:ah D E ρ b car n k st w cs m' o):ah D E ρ b car n k st w cs m o:=by
 cases o with
 |no w=>trivial
 |val v s=>trivial
 |normal T df s=>obtain⟨ρ2,a2,w2,cs2,h1,h2⟩:=h;exact⟨ρ2,a2,w2,cs2,h1, .head hs h2⟩
 |exit id T df s=>obtain⟨ρ2,a2,w2,cs2,k2,h1,h2,h3⟩:=h;exact⟨ρ2,a2,w2,cs2,k2,h1,h2, .head hs h3⟩
 |ret T df s=>obtain⟨ρ2,a2,w2,cs2,k2,h1,h2⟩:=h;exact⟨ρ2,a2,w2,cs2,k2,h1, .head hs h2⟩
 |panic c T df s=>obtain⟨ρ2,a2,w2,cs2,k2,ch,h1,h2,h3⟩:=h;exact⟨ρ2,a2,w2,cs2,k2,ch,h1,h2, .head hs h3⟩
def iR (ρ:aj):Option Nat->Option Nat->Prop
 |none,H=>True
 |some l,F b=>∃e,ρ l=F (b,e)
 |_,_=>False
theorem iR.mono {ρ ρ':aj} (le:Le ρ ρ') {x y:Option Nat} (h:iR ρ x y):iR ρ' x y:=by
 cases x<;>cases y<;>first|exact h|(obtain⟨e,he⟩:=h;exact⟨e,le _ _ he⟩)
def fg (D:Array Z->Bool) (E:Env) (ρ:aj) (f:FuncId) (xs:List N) (st:St) (w:aa):Out->Prop
 | .val v st'=>Calls E.P f ⟨xs⟩ w λe w'=>∃x ρ',e= .returned x/\VR ρ' v x/\Mw E (GE D E) ρ st w ρ' st' w'/\st'.u=st.u
 | .panic c _ _ st'=>Calls E.P f ⟨xs⟩ w λe w'=>∃chain ρ',e= .panicked chain/\co ρ' c chain/\Mw E (GE D E) ρ st w ρ' st' w'/\st'.u=st.u
 |_=>True
def iN (D:Array Z->Bool) (E:Env) (ρ:aj) (f:FuncId) (xs:List N) (st:St) (mode:FrameMode) (w:aa):Out->Prop
 | .val _ st'=>CallsD E.P f ⟨xs⟩ mode w λe u' w'=>∃x ρ' um,e= .returned x/\Mw E (GE D E) ρ st w ρ' st' w'/\st'.u=F um/\aO ρ' um u'
 | .panic c _ _ st'=>CallsD E.P f ⟨xs⟩ mode w λe u' w'=>∃chain ρ' um,e= .panicked chain/\co ρ' c chain/\Mw E (GE D E) ρ st w ρ' st' w'/\st'.u=F um/\aO ρ' um u'
 |_=>True
def aP (D:Array Z->Bool) (E:Env) (ρ:aj) (fn:Func) (a:Act) (mode:FrameMode) (st:St) (w:aa):Out->Prop
 | .val v st'=>∀(fr:Frame) (cs:List Frame),fr.mode=mode->fr.defers=a.defers->fr.tmps=a.tmps->E.P.funcs[fr.fn]?=F fn->fr.kind= .normal->
   ∃x ρ' w' fr',Steps E.P (lone fr cs w) (lone fr' cs w')/\fr'.fn=fr.fn/\fr'.leaving E.P w' (.returned x)/\VR ρ' v x/\Mw E (GE D E) ρ st w ρ' st' w'/\st'.u=st.u
 | .panic c _ _ st'=>∀(fr:Frame) (cs:List Frame),fr.mode=mode->fr.defers=a.defers->fr.tmps=a.tmps->E.P.funcs[fr.fn]?=F fn->fr.kind= .normal->
   ∃chain ρ' w' fr',Steps E.P (lone fr cs w) (lone fr' cs w')/\fr'.fn=fr.fn/\fr'.leaving E.P w' (.panicked chain)/\co ρ' c chain/\Mw E (GE D E) ρ st w ρ' st' w'/\st'.u=st.u
 |_=>True
def aM (lp:Loop) (xs:List N):Array N:=(lp.params.zip ⟨xs⟩).foldl (λtmps (t,a)=>tmps.setIfInBounds t a) lp.tmps
def eM (D:Array Z->Bool) (E:Env) (ρ:aj) (lb:Nat) (xs:List N) (st:St) (w:aa):Out->Prop
 | .val v st'=>∃lp,w.heap[lb]?=F (.loop lp)/\xs.length=lp.params.size/\∀(c:Frame) (cs:List Frame),∃x ρ' w',Steps E.P (lone (Frame.round lb lp.fn (aM lp xs) lp.assign lp.body .normal) (c :: cs) w) (lone (c.finish x) cs w')/\VR ρ' v x/\Mw E (GE D E) ρ st w ρ' st' w'/\st'.u=st.u
 | .panic ch _ _ st'=>∃lp,w.heap[lb]?=F (.loop lp)/\xs.length=lp.params.size/\∀(c:Frame) (cs:List Frame),∃chain ρ' w',Steps E.P (lone (Frame.round lb lp.fn (aM lp xs) lp.assign lp.body .normal) (c :: cs) w) (lone (c.raise chain) cs w')/\co ρ' ch chain/\Mw E (GE D E) ρ st w ρ' st' w'/\st'.u=st.u
 |_=>True
inductive Entry:Item->Code->Prop
 |code (c:Code):Entry (.code c) c
 |loop (c:Code):Entry (.inLoop c) (.loop c)
structure RecOK (D:Array Z->Bool) (E:Env) (ev:b8):Prop where
 code:∀ar c T df f st ρ b car n k a w cs,Sit D E ρ b n T df st a w cs->goodC D E.P.globals.size n c=true->iR ρ ar car->(ar.isSome=true->st.u=H)->b.fn=f->(∃fn,E.P.funcs[f]?=F fn)->
  ∀it,Entry it c->ah D E ρ b car n k st w cs (lone (At b car a (it :: k)) cs w) (ev (.code ar c T df f) st)
 call:∀f args st ρ w xs,Rel E (GE D E) ρ st w.heap->VRs ρ args xs->fg D E ρ f xs st w (ev (.call f args) st)
 calld:∀f args st ρ w xs um mode,Rel E (GE D E) ρ st w.heap->VRs ρ args xs->st.u=F um->aO ρ um mode->iN D E ρ f xs st mode w (ev (.calld f args) st)
 leave:∀fn T df u st ρ a mode w,Rel E (GE D E) ρ st w.heap->ER ρ T a.tmps->fN ρ df a.defers->aO ρ u mode->aP D E ρ fn a mode st w (ev (.leave fn T df u) st)
 round:∀l args st ρ w xs lb e,Rel E (GE D E) ρ st w.heap->VRs ρ args xs->ρ l=F (lb,e)->eM D E ρ lb xs st w (ev (.round l args) st)
end
end Ev
