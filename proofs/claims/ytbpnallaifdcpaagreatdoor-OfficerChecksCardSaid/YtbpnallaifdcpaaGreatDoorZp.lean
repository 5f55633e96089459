/- Parts of the proof. -/
import Derived.Test.YtbpnallaifdcpaaGreatDoorZo
set_option linter.unusedVariables false
set_option linter.unusedSimpArgs false
set_option maxRecDepth 100000
set_option maxHeartbeats 4000000
namespace Go.Proofs.YtbpnallaifdcpaaGreatDoor
open Go.Value renaming int→M
open Go.IntKind renaming i64→U
open Option renaming none→ag,some→ai
open Go renaming World→aj,Value→aw,TypeId→aT,maxLen→cF
open Nat renaming zero_le→aF,le_trans→aO,le_refl→aY
open Go.World renaming block_lt_of_cell?→aG
section
open Tryz
open Go.ChangeShapes Go.WideShapes Go.RowKit Go.Deep
section
variable {H:Type} {enc:aT×aw->H} {P:Program} {w:aj} {base:Nat} {spare:Nat->Bool} {bV:Bool}
def ec (P:Program):Nat->aT->Nat->Option aT
 |0,_,_=>ag
 |n+1,t,i=>
  match P.underlying t with
  |ai (.struct fs)=>(fs.toList.find? λf=>decide (f.offset<=i)&&decide (i<f.offset+P.cellsOf f.type)).bind λf=>ec P n f.type (i - f.offset)
  |ai (.array m e)=>if P.cellsOf e=1/\i<m then ec P n e 0 else ag
  |ai (.int _)=>if i=0 then ai t else ag
  |ai .string=>if i=0 then ai t else ag
  |ai .bool=>if i=0 then ai t else ag
  |ai (.slice _)=>if i=0 then ai t else ag
  |_=>ag
theorem fK {n:Nat}:∀{ts:List aT} {ds:List (DataW H)} {j:Nat} {t:aT} {d:DataW H},ts[j]?=ai t->ds[j]?=ai d->n∈d.weights P t->n∈DataW.weightsEach P ts ds
 |[],_,j,t,d,h,_,_=>by simp at h
 |_ :: _,[],j,t,d,_,h,_=>by simp at h
 |t0 :: ts,d0 :: ds,0,t,d,h1,h2,hn=>by
  simp at h1 h2
  subst h1 h2
  simp[DataW.weightsEach,hn]
 |t0 :: ts,d0 :: ds,j+1,t,d,h1,h2,hn=>by
  have:=fK (ts:=ts) (ds:=ds) (j:=j) (by simpa using h1) (by simpa using h2) hn
  simp[DataW.weightsEach,this]
theorem eM {n:Nat} {e:aT}:∀{ds:List (DataW H)} {j:Nat} {d:DataW H},ds[j]?=ai d->n∈d.weights P e->n∈DataW.weightsAll P e ds
 |[],j,d,h,_=>by simp at h
 |d0 :: ds,0,d,h2,hn=>by
  simp at h2
  subst h2
  simp[DataW.weightsAll,hn]
 |d0 :: ds,j+1,d,h2,hn=>by
  have:=eM (ds:=ds) (j:=j) (by simpa using h2) hn
  simp[DataW.weightsAll,this]
theorem bD:∀(n:Nat) {t u:aT} {i fuel:Nat} {cs:List aw} {x:DataW H×List MemPlace},ec P n t i=ai u->DataW.trod enc P w base spare bV fuel t cs=ai x->
  ∃v m y,cs[i]?=ai v/\DataW.trod enc P w base spare bV m u [v]=ai y/\∀k∈y.1.weights P u,k∈x.1.weights P t
 |0,t,u,i,fuel,cs,x,hl,_=>by simp[ec]at hl
 |n+1,t,u,i,fuel,cs,x,hl,h=>by
  unfold ec at hl
  split at hl
  ·rename_i fs hu
   obtain⟨f,hf,hl'⟩:=Option.bind_eq_some_iff.1 hl
   have hmem:=List.mem_of_find?_eq_some hf
   have hp:=List.find?_some hf
   simp only[Bool.and_eq_true,decide_eq_true_eq]at hp
   obtain⟨j,hj⟩:=List.getElem?_of_mem hmem
   obtain⟨xs,m,_,hx,_,hxl,hg⟩:=DataW.trod_struct hu h
   have hjf:fs[j]?=ai f:=by simpa using hj
   have hjl:j<fs.size:=(Array.getElem?_eq_some_iff.1 hjf).1
   have h1:=hg j f hjf
   have hxj:xs[j]?=ai (xs[j]'om):=List.getElem?_eq_getElem om
   rw[hxj]at h1
   obtain⟨v,m',y,hv,hy,hwt⟩:=bD n hl' h1
   refine⟨v,m',y,?_,hy,λk hk=>?_⟩
   ·rw[List.getElem?_take_of_lt om,List.getElem?_drop]at hv
    rwa [show f.offset+(i - f.offset)=i by omega]at hv
   ·rw[hx]
    simp only[DataW.weights,hu]
    exact fK (j:=j) (t:=f.type) (by simp[hj]) (by simp[hxj]) (hwt k hk)
  ·rename_i m e hu
   split at hl
   ·rename_i hc
    obtain⟨xs,m',_,hx,_,hxl,hg⟩:=DataW.trod_array hu h
    have h1:=hg i hc.2
    have hxj:xs[i]?=ai (xs[i]'om):=List.getElem?_eq_getElem om
    rw[hxj,hc.1,Nat.mul_one]at h1
    obtain⟨v,m'',y,hv,hy,hwt⟩:=bD n hl h1
    refine⟨v,m'',y,?_,hy,λk hk=>?_⟩
    ·rw[List.getElem?_take_of_lt om,List.getElem?_drop]at hv
     simpa using hv
    ·rw[hx]
     simp only[DataW.weights,hu]
     exact eM (j:=i) (by simp[hxj]) (hwt k hk)
   ·cases hl
  ·rename_i k hu
   split at hl
   ·rename_i hi
    subst hi
    cases hl
    obtain⟨z,rfl,_,_⟩:=DataW.trod_int hu h
    exact⟨_,_,_,rfl,h,λ_ hk=>hk⟩
   ·cases hl
  ·rename_i hu
   split at hl
   ·rename_i hi
    subst hi
    cases hl
    obtain⟨z,rfl,_,_⟩:=DataW.trod_string hu h
    exact⟨_,_,_,rfl,h,λ_ hk=>hk⟩
   ·cases hl
  ·rename_i hu
   split at hl
   ·rename_i hi
    subst hi
    cases hl
    obtain⟨z,rfl,_⟩:=DataW.trod_bool hu h
    exact⟨_,_,_,rfl,h,λ_ hk=>hk⟩
   ·cases hl
  ·rename_i e hu
   split at hl
   ·rename_i hi
    subst hi
    cases hl
    rcases DataW.trod_slice hu h with⟨rfl,_⟩|⟨a,len,cap,_,_,_,_,rfl,_⟩
    ·exact⟨_,_,_,rfl,h,λ_ hk=>hk⟩
    ·exact⟨_,_,_,rfl,h,λ_ hk=>hk⟩
   ·cases hl
  ·cases hl
theorem bF {n:Nat} {t u:aT} {i fuel:Nat} {k:IntKind} {cs:List aw} {x:DataW H×List MemPlace} (hl:ec P n t i=ai u) (hu:P.underlying u=ai (.int k)) (h:DataW.trod enc P w base spare bV fuel t cs=ai x):
  ∃z,cs[i]?=ai (.int k z)/\(Lit.int k z).wf=true:=by
 obtain⟨v,m,y,hv,hy,_⟩:=bD n hl h
 obtain⟨z,hz,_,hw⟩:=DataW.trod_int hu hy
 exact⟨z,by rw[hv];cases hz;rfl,hw⟩
theorem nl {n:Nat} {t u:aT} {i fuel:Nat} {cs:List aw} {x:DataW H×List MemPlace} (hl:ec P n t i=ai u) (hu:P.underlying u=ai .string) (h:DataW.trod enc P w base spare bV fuel t cs=ai x):
  ∃s:ByteArray,cs[i]?=ai (.string s)/\s.size∈x.1.weights P t:=by
 obtain⟨v,m,y,hv,hy,hwt⟩:=bD n hl h
 obtain⟨z,hz,hyz,_⟩:=DataW.trod_string hu hy
 exact⟨z,by rw[hv];cases hz;rfl,hwt _ (by rw[hyz];simp[DataW.weights])⟩
theorem qi {w:aj} {a:Addr} {v:aw} (h:w.cell? a=ai v):a=⟨a.block,a.off,ag⟩:=by
 cases a with
 |mk b o s=>
  cases s with
  |none=>rfl
  |some n=>unfold aj.cell? at h;split at h<;>simp at h
theorem sd (b o n:Nat):(⟨b,o,ag⟩:Addr).add n=⟨b,o+n,ag⟩:=by
 by_cases h:n=0<;>simp[Addr.add,h]
theorem pB {t e:aT} {k n0 fuel:Nat} {L:Nat->aT} {cs:List aw} {x:DataW H×List MemPlace} (ht:P.underlying t=ai (.slice e)) (hC:P.cellsOf e=k) (hk:0<k) (hL:∀j,j<k->ec P n0 e j=ai (L j)) (h:DataW.trod enc P w base spare bV fuel t cs=ai x):
  ∃(a:Option Addr) (len cap:Nat),cs=[.slice a len cap]/\len<=cap/\cap<=cF/\(len=0\/∃more,(len+more)*P.bytesOf e∈x.1.weights P t)/\
   (len=0\/∃b off,a=ai ⟨b,off,ag⟩/\b<w.heap.size/\∀i j,i<len->j<k->∃v m y,w.cell? ⟨b,off+(i*k+j),ag⟩=ai v/\DataW.trod enc P w base spare bV m (L j) [v]=ai y/\∀c∈y.1.weights P (L j),c∈x.1.weights P t):=by
 rcases open_slice ht h with⟨rfl,_⟩|⟨a,len,cap,m,n,D,Pl,rfl,hb,hl,hm,hmm,hxe,hx⟩
 ·exact⟨ag,0,0,rfl,aY _,aF _, .inl rfl, .inl rfl⟩
 refine⟨ai a,len,cap,rfl,hl,hm, .inr ⟨m - len,by rw[hxe];simp[DataW.weights,ht]⟩,?_⟩
 by_cases h0:len=0
 ·exact .inl h0
 have hlm:len<=m:=by rw[hmm];split<;>omega
 have key:∀i j,i<len->j<k->∃v m y,w.cell? (a.add (i*k+j))=ai v/\DataW.trod enc P w base spare bV m (L j) [v]=ai y/\∀c∈y.1.weights P (L j),c∈x.1.weights P t:=λi j hi hj=>by
  obtain⟨cs',h1,h2⟩:=hx i om
  rw[hC]at h1
  obtain⟨_,hcl,hat⟩:=aj.cells?_some h1
  obtain⟨v,m',y,hv,hy,hwt⟩:=bD n0 (hL j hj) h2
  refine⟨v,m',y,?_,hy,λc hc=>?_⟩
  ·rw[<-Go.Deep.add_add,hat j hj,hv]
  have h3:=eM (ds:=(List.range len).map D) (j:=i) (by simp[hi]) (hwt c hc)
  rw[hxe]
  simp[DataW.weights,ht,h3]
 obtain⟨v0,_,_,hv0,_,_⟩:=key 0 0 om hk
 have hsp:=qi hv0
 have hsn:a=⟨a.block,a.off,ag⟩:=by
  have:=congrArg Addr.spot hsp
  cases a with
  |mk b o s=>simp[Addr.add]at this;simp[this]
 refine .inr ⟨a.block,a.off,by rw[<-hsn],?_,λi j hi hj=>?_⟩
 ·have:=aG w _ hv0
  simpa[Addr.add]using this
 obtain⟨v,m',y,hv,hy,hwt⟩:=key i j hi hj
 refine⟨v,m',y,?_,hy,hwt⟩
 rw[hsn,sd]at hv
 exact hv
def vI:aw->Int
 | .int _ z=>z
 |_=>0
def vS:aw->ByteArray
 | .string s=>s
 |_=>⟨#[]⟩
def vB:aw->Bool
 | .bool b=>b
 |_=>false
def vA:aw->Option Addr
 | .slice a _ _=>a
 |_=>ag
def vN:aw->Nat
 | .slice _ n _=>n
 |_=>0
def vC:aw->Nat
 | .slice _ _ c=>c
 |_=>0
theorem aU.congr {v:aw} {n k:Nat} {F G:Nat->Nat->aw} (h:aU w v n k F) (e:∀i j,i<n->j<k->F i j=G i j):aU w v n k G:=by
 obtain⟨a,c,hv,hc,h0|⟨b,off,ha,hb,hx⟩⟩:=h
 ·exact⟨a,c,hv,hc, .inl h0⟩
 exact⟨a,c,hv,hc, .inr ⟨b,off,ha,hb,λi j hi hj=>by rw[hx i j hi hj,e i j hi hj]⟩⟩
theorem ez {t e:aT} {k n0 fuel B:Nat} {L:Nat->aT} {v:aw} {x:DataW H×List MemPlace} (ht:P.underlying t=ai (.slice e)) (hC:P.cellsOf e=k) (hk:0<k) (hL:∀j,j<k->ec P n0 e j=ai (L j)) (h:DataW.trod enc P w base spare bV fuel t [v]=ai x) (hB:∀c∈x.1.weights P t,c<=B):
  ∃(n:Nat) (F:Nat->Nat->aw),aU w v n k F/\n*P.bytesOf e<=B/\(∀i j,i<n->j<k->∃m y,DataW.trod enc P w base spare bV m (L j) [F i j]=ai y/\∀c∈y.1.weights P (L j),c<=B):=by
 obtain⟨a,len,cap,hcs,h1,h2,h3,h4⟩:=pB ht hC hk hL h
 obtain rfl:v= .slice a len cap:=by simpa using hcs
 have hb:len*P.bytesOf e<=B:=by
  rcases h3 with rfl|⟨more,hm⟩
  ·simp
  exact aO (Nat.mul_le_mul_right _ (Nat.le_add_right _ _)) (hB _ hm)
 rcases h4 with h0|⟨b,off,ha,hbl,hx⟩
 ·exact⟨len,λ_ _=> .bool false,⟨a,cap,rfl,h1, .inl h0⟩,hb,λi j hi _=>by omega⟩
 have key:∀i j,∃z:aw,i<len->j<k->(w.cell? ⟨b,off+(i*k+j),ag⟩=ai z/\∃m y,DataW.trod enc P w base spare bV m (L j) [z]=ai y/\∀c∈y.1.weights P (L j),c<=B):=λi j=>by
  by_cases hh:i<len/\j<k
  ·obtain⟨v,m,y,hv,hy,hw⟩:=hx i j hh.1 hh.2
   exact⟨v,λ_ _=>⟨hv,m,y,hy,λc hc=>hB c (hw c hc)⟩⟩
  exact⟨.bool false,λp q=>absurd ⟨p,q⟩ hh⟩
 refine⟨len,λi j=>Classical.choose (key i j),⟨a,cap,rfl,h1, .inr ⟨b,off,ha,hbl,λi j hi hj=>?_⟩⟩,hb,λi j hi hj=>(Classical.choose_spec (key i j) hi hj).2⟩
 rw[Nat.add_assoc]
 exact(Classical.choose_spec (key i j) hi hj).1
theorem cE {t:aT} {m:Nat} {v:aw} {y:DataW H×List MemPlace} (ht:P.underlying t=ai (.int .i64)) (h:DataW.trod enc P w base spare bV m t [v]=ai y):v= .int .i64 (vI v):=by
 obtain⟨z,hz,_⟩:=DataW.trod_int ht h
 cases hz;rfl
theorem pk {t:aT} {m:Nat} {v:aw} {y:DataW H×List MemPlace} (ht:P.underlying t=ai .bool) (h:DataW.trod enc P w base spare bV m t [v]=ai y):v= .bool (vB v):=by
 obtain⟨z,hz,_⟩:=DataW.trod_bool ht h
 cases hz;rfl
theorem i6 {t:aT} {m B:Nat} {v:aw} {y:DataW H×List MemPlace} (ht:P.underlying t=ai .string) (h:DataW.trod enc P w base spare bV m t [v]=ai y) (hB:∀c∈y.1.weights P t,c<=B):v= .string (vS v)/\(vS v).size<=B:=by
 obtain⟨z,hz,hy,_⟩:=DataW.trod_string ht h
 cases hz
 exact⟨rfl,hB _ (by rw[hy];simp[DataW.weights,vS])⟩
theorem aU.parts {v:aw} {n k:Nat} {F:Nat->Nat->aw} (h:aU w v n k F):v= .slice (vA v) (vN v) (vC v)/\vN v=n:=by
 obtain⟨a,c,rfl,_⟩:=h
 exact⟨rfl,rfl⟩
end
end
section
open Tryz
open Go.ChangeShapes Go.WideShapes Go.RowKit Go.Deep
section
variable {H:Type} {enc:aT×aw->H} {w:aj} {base:Nat} {spare:Nat->Bool} {bV:Bool}
theorem fg {P:Program} {n k:Nat} {e:aT} {L:Nat->aT} (h:((List.range k).all λj=>ec P n e j==ai (L j))=true) (j:Nat) (hj:j<k):ec P n e j=ai (L j):=by
 have:=List.all_eq_true.1 h j (List.mem_range.2 hj)
 simpa using this
theorem lk {n b B:Nat} (h:n*b<=B) (hb:0<b):n<=B:=aO (Nat.le_mul_of_pos_right n hb) h
theorem cC {t e:aT} {k fuel B:Nat} {v:aw} {x:DataW H×List MemPlace} (ht:prog.underlying t=ai (.slice e)) (hC:prog.cellsOf e=k) (hk:0<k) (hL:((List.range k).all λj=>ec prog 8 e j==ai 3)=true) (hb:0<prog.bytesOf e) (h:DataW.trod enc prog w base spare bV fuel t [v]=ai x) (hB:∀c∈x.1.weights prog t,c<=B):
  ∃n R,aU w v n k (bw R)/\n<=B:=by
 obtain⟨n,F,hR,hn,hx⟩:=ez (L:=λ_=>3) ht hC hk (fg hL) h hB
 exact⟨n,λi j=>vI (F i j),hR.congr (λi j hi hj=>by obtain⟨m,y,hy,_⟩:=hx i j hi hj;exact cE underlying3 hy),lk hn hb⟩
theorem fh {t e:aT} {k fuel B:Nat} {v:aw} {x:DataW H×List MemPlace} (ht:prog.underlying t=ai (.slice e)) (hC:prog.cellsOf e=k) (hk:0<k) (hL:((List.range k).all λj=>ec prog 8 e j==ai (if j=0 then 9 else 3))=true) (hb:0<prog.bytesOf e) (h:DataW.trod enc prog w base spare bV fuel t [v]=ai x) (hB:∀c∈x.1.weights prog t,c<=B):
  ∃n N R,aU w v n k (em N R)/\n<=B/\∀i,i<n->(N i).size<=B:=by
 obtain⟨n,F,hR,hn,hx⟩:=ez (L:=λj=>if j=0 then 9 else 3) ht hC hk (fg hL) h hB
 refine⟨n,λi=>vS (F i 0),λi j=>vI (F i j),hR.congr (λi j hi hj=>?_),lk hn hb,λi hi=>?_⟩
 rotate_left
 ·obtain⟨m,y,hy,hw⟩:=hx i 0 hi hk
  exact(i6 underlying9 hy hw).2
 obtain⟨m,y,hy,hw⟩:=hx i j hi hj
 cases j with
 |zero=>exact(i6 underlying9 hy hw).1
 |succ j=>exact cE underlying3 hy
theorem kj {fuel B:Nat} {v:aw} {x:DataW H×List MemPlace} (h:DataW.trod enc prog w base spare bV fuel 52 [v]=ai x) (hB:∀c∈x.1.weights prog 52,c<=B):
  ∃(n:Nat) (N:Nat->ByteArray),aU w v n 1 (λi _=> .string (N i))/\n<=B/\∀i,i<n->(N i).size<=B:=by
 obtain⟨n,N,R,h1,h2,h3⟩:=fh (t:=52) (e:=9) (k:=1) underlying52 kr (by decide) kr (by decide+kernel) h hB
 exact⟨n,N,h1.congr (λi j _ hj=>by obtain rfl:j=0:=om;rfl),h2,h3⟩
theorem gy {fuel B:Nat} {v:aw} {x:DataW H×List MemPlace} (h:DataW.trod enc prog w base spare bV fuel 24 [v]=ai x) (hB:∀c∈x.1.weights prog 24,c<=B):
  ∃R:Nat->Int,aU w v (vN v) 1 (bw λj _=>R j)/\vN v<=B:=by
 obtain⟨n,R,h1,h2⟩:=cC (t:=24) (e:=3) (k:=1) underlying24 kr (by decide) kr (by decide+kernel) h hB
 obtain⟨_,rfl⟩:=h1.parts
 exact⟨λj=>R j 0,h1.congr (λi j _ hj=>by obtain rfl:j=0:=om;rfl),h2⟩
theorem oq {fuel B:Nat} {v:aw} {x:DataW H×List MemPlace} (h:DataW.trod enc prog w base spare bV fuel 49 [v]=ai x) (hB:∀c∈x.1.weights prog 49,c<=B):
  ∃n N R Bb,aU w v n 8 (pm N R Bb)/\n<=B/\∀i,i<n->(N i).size<=B:=by
 obtain⟨n,F,hR,hn,hx⟩:=ez (t:=49) (e:=240) (k:=8) (L:=λj=>[9,3,3,3,3,3,3,4].getD j 3) underlying49 kr (by decide) (fg (n:=8) kr) h hB
 refine⟨n,λi=>vS (F i 0),λi j=>vI (F i j),λi=>vB (F i 7),hR.congr (λi j hi hj=>?_),lk hn (by decide+kernel),λi hi=>?_⟩
 rotate_left
 ·exact sJ
 obtain⟨m,y,hy,hw⟩:=hx i j hi hj
 have hj2:j=0\/j=1\/j=2\/j=3\/j=4\/j=5\/j=6\/j=7:=om
 rcases hj2 with rfl|rfl|rfl|rfl|rfl|rfl|rfl|rfl
 ·exact sw
 ·exact cE underlying3 hy
 ·exact cE underlying3 hy
 ·exact cE underlying3 hy
 ·exact cE underlying3 hy
 ·exact cE underlying3 hy
 ·exact cE underlying3 hy
 exact pk underlying4 hy
theorem nJ {fuel B:Nat} {v:aw} {x:DataW H×List MemPlace} (h:DataW.trod enc prog w base spare bV fuel 53 [v]=ai x) (hB:∀c∈x.1.weights prog 53,c<=B):
  ∃n N R SA SN SC,∃K:Nat->Nat->Int,aU w v n 6 (lB N R SA SN SC)/\n<=B/\(∀i,i<n->(N i).size<=B)/\∀i,i<n->aU w (.slice (SA i) (SN i) (SC i)) (SN i) 1 (bw λj _=>K i j)/\SN i<=B:=by
 obtain⟨n,F,hR,hn,hx⟩:=ez (t:=53) (e:=246) (k:=6) (L:=λj=>[9,3,3,3,3,24].getD j 3) underlying53 kr (by decide) (fg (n:=8) kr) h hB
 have hk:∀i,∃R:Nat->Int,i<n->aU w (F i 5) (vN (F i 5)) 1 (bw λj _=>R j)/\vN (F i 5)<=B:=λi=>by
  by_cases hi:i<n
  ·obtain⟨m,y,hy,hw⟩:=hx i 5 hi (by decide)
   obtain⟨R,h1,h2⟩:=gy hy hw
   exact⟨R,λ_=>⟨h1,h2⟩⟩
  exact⟨λ_=>0,λh=>absurd h hi⟩
 refine⟨n,λi=>vS (F i 0),λi j=>vI (F i j),λi=>vA (F i 5),λi=>vN (F i 5),λi=>vC (F i 5),λi=>(hk i).choose,hR.congr (λi j hi hj=>?_),lk hn (by decide+kernel),λi hi=>?_,λi hi=>?_⟩
 ·obtain⟨m,y,hy,hw⟩:=hx i j hi hj
  have hj2:j=0\/j=1\/j=2\/j=3\/j=4\/j=5:=om
  rcases hj2 with rfl|rfl|rfl|rfl|rfl|rfl
  ·exact sw
  ·exact cE underlying3 hy
  ·exact cE underlying3 hy
  ·exact cE underlying3 hy
  ·exact cE underlying3 hy
  exact(gy hy hw).choose_spec.1.parts.1
 ·exact sJ
 have h1:=(hk i).choose_spec hi
 rw[<-h1.1.parts.1]
 exact h1
theorem ne {fuel B:Nat} {v:aw} {x:DataW H×List MemPlace} (h:DataW.trod enc prog w base spare bV fuel 48 [v]=ai x) (hB:∀c∈x.1.weights prog 48,c<=B):
  ∃(n:Nat) (N:Nat->ByteArray) (X:Nat->Nat->Int) (Ks:Nat->Nat) (KA:Nat->Option Addr) (KC:Nat->Nat) (KS:Nat->Nat->Nat->Int),∃F,aU w v n 6 F/\(∀i,i<n->F i 0= .string (N i)/\F i 1= .int .i64 (X i 0)/\F i 2= .int .i64 (X i 1)/\F i 3= .int .i64 (X i 2)/\F i 4= .int .i64 (X i 3)/\F i 5= .slice (KA i) (Ks i) (KC i))/\(∀i,i<n->(N i).size<=B)/\∀i,i<n->aU w (.slice (KA i) (Ks i) (KC i)) (Ks i) 5 (bw (KS i)):=by
 obtain⟨n,F,hR,hn,hx⟩:=ez (t:=48) (e:=108) (k:=6) (L:=λj=>[9,3,3,3,3,106].getD j 3) underlying48 kr (by decide) (fg (n:=8) kr) h hB
 have hk:∀i,∃R:Nat->Nat->Int,i<n->aU w (F i 5) (vN (F i 5)) 5 (bw R):=λi=>by
  by_cases hi:i<n
  rotate_left
  ·exact⟨λ_ _=>0,λh=>absurd h hi⟩
  obtain⟨m,y,hy,hw⟩:=hx i 5 hi (by decide)
  obtain⟨l,R,h1,h2⟩:=cC (t:=106) (e:=194) (k:=5) underlying106 kr (by decide) kr (by decide+kernel) hy hw
  obtain⟨_,rfl⟩:=h1.parts
  exact⟨R,λ_=>h1⟩
 refine⟨n,λi=>vS (F i 0),λi j=>vI (F i (j+1)),λi=>vN (F i 5),λi=>vA (F i 5),λi=>vC (F i 5),λi=>(hk i).choose,F,hR,λi hi=>⟨?_,?_,?_,?_,?_,?_⟩,λi hi=>?_,λi hi=>?_⟩
 ·obtain⟨m,y,hy,hw⟩:=hx i 0 hi (by decide)
  exact sw
 ·obtain⟨m,y,hy,hw⟩:=hx i 1 hi (by decide)
  exact cE underlying3 hy
 ·obtain⟨m,y,hy,hw⟩:=hx i 2 hi (by decide)
  exact cE underlying3 hy
 ·obtain⟨m,y,hy,hw⟩:=hx i 3 hi (by decide)
  exact cE underlying3 hy
 ·obtain⟨m,y,hy,hw⟩:=hx i 4 hi (by decide)
  exact cE underlying3 hy
 ·exact((hk i).choose_spec hi).parts.1
 ·exact sJ
 have h1:=(hk i).choose_spec hi
 rw[<-h1.parts.1]
 exact h1
theorem ol {fuel B:Nat} {v:aw} {x:DataW H×List MemPlace} (h:DataW.trod enc prog w base spare bV fuel 57 [v]=ai x) (hB:∀c∈x.1.weights prog 57,c<=B):
  ∃(n:Nat) (N:Nat->ByteArray) (TL TM:Nat->Int) (TP:Nat->Bool) (LA:Nat->Nat->Option Addr) (LN LC:Nat->Nat->Nat) (LV:Nat->Nat->Nat->Int) (AA:Nat->Option Addr) (AN AC:Nat->Nat) (AV:Nat->Nat->Nat->Int),∃F,aU w v n 9 F/\(∀i,i<n->F i 0= .string (N i)/\F i 1= .slice (LA i 0) (LN i 0) (LC i 0)/\F i 2= .int .i64 (TL i)/\F i 3= .int .i64 (TM i)/\F i 4= .bool (TP i)/\F i 5= .slice (LA i 1) (LN i 1) (LC i 1)/\F i 6= .slice (LA i 2) (LN i 2) (LC i 2)/\F i 7= .slice (LA i 3) (LN i 3) (LC i 3)/\F i 8= .slice (AA i) (AN i) (AC i))/\(∀i,i<n->(N i).size<=B)/\(∀i k,i<n->k<4->aU w (.slice (LA i k) (LN i k) (LC i k)) (LN i k) 1 (bw λj _=>LV i k j)/\LN i k<=B)/\∀i,i<n->aU w (.slice (AA i) (AN i) (AC i)) (AN i) 5 (bw (AV i)):=by
 obtain⟨n,F,hR,hn,hx⟩:=ez (t:=57) (e:=139) (k:=9) (L:=λj=>[9,24,3,3,4,24,24,24,137].getD j 3) underlying57 kr (by decide) (fg (n:=8) kr) h hB
 have hk:∀i k,∃R:Nat->Int,i<n->k<4->aU w (F i ([1,5,6,7].getD k 0)) (vN (F i ([1,5,6,7].getD k 0))) 1 (bw λj _=>R j)/\vN (F i ([1,5,6,7].getD k 0))<=B:=λi k=>by
  by_cases hi:i<n/\k<4
  rotate_left
  ·exact⟨λ_=>0,λp q=>absurd ⟨p,q⟩ hi⟩
  have hq:k=0\/k=1\/k=2\/k=3:=om
  rcases hq with rfl|rfl|rfl|rfl
  ·obtain⟨m,y,hy,hw⟩:=hx i 1 hi.1 (by decide)
   exact tj
  ·obtain⟨m,y,hy,hw⟩:=hx i 5 hi.1 (by decide)
   exact tj
  ·obtain⟨m,y,hy,hw⟩:=hx i 6 hi.1 (by decide)
   exact tj
  obtain⟨m,y,hy,hw⟩:=hx i 7 hi.1 (by decide)
  exact tj
 have ha:∀i,∃R:Nat->Nat->Int,i<n->aU w (F i 8) (vN (F i 8)) 5 (bw R):=λi=>by
  by_cases hi:i<n
  rotate_left
  ·exact⟨λ_ _=>0,λh=>absurd h hi⟩
  obtain⟨m,y,hy,hw⟩:=hx i 8 hi (by decide)
  obtain⟨l,R,h1,h2⟩:=cC (t:=137) (e:=294) (k:=5) underlying137 kr (by decide) kr (by decide+kernel) hy hw
  obtain⟨_,rfl⟩:=h1.parts
  exact⟨R,λ_=>h1⟩
 refine⟨n,λi=>vS (F i 0),λi=>vI (F i 2),λi=>vI (F i 3),λi=>vB (F i 4),λi k=>vA (F i ([1,5,6,7].getD k 0)),λi k=>vN (F i ([1,5,6,7].getD k 0)),λi k=>vC (F i ([1,5,6,7].getD k 0)),λi k=>(hk i k).choose,λi=>vA (F i 8),λi=>vN (F i 8),λi=>vC (F i 8),λi=>(ha i).choose,F,hR,λi hi=>⟨?_,?_,?_,?_,?_,?_,?_,?_,?_⟩,λi hi=>?_,λi k hi hk4=>?_,λi hi=>?_⟩
 ·obtain⟨m,y,hy,hw⟩:=hx i 0 hi (by decide)
  exact sw
 ·exact((hk i 0).choose_spec hi (by decide)).1.parts.1
 ·obtain⟨m,y,hy,hw⟩:=hx i 2 hi (by decide)
  exact cE underlying3 hy
 ·obtain⟨m,y,hy,hw⟩:=hx i 3 hi (by decide)
  exact cE underlying3 hy
 ·obtain⟨m,y,hy,hw⟩:=hx i 4 hi (by decide)
  exact pk underlying4 hy
 ·exact((hk i 1).choose_spec hi (by decide)).1.parts.1
 ·exact((hk i 2).choose_spec hi (by decide)).1.parts.1
 ·exact((hk i 3).choose_spec hi (by decide)).1.parts.1
 ·exact((ha i).choose_spec hi).parts.1
 ·exact sJ
 ·have h1:=(hk i k).choose_spec hi hk4
  rw[<-h1.1.parts.1]
  exact h1
 have h1:=(ha i).choose_spec hi
 rw[<-h1.parts.1]
 exact h1
end
end
section
open Tryz
open Go.ChangeShapes Go.WideShapes Go.RowKit Go.Deep
section
variable {H:Type} {enc:aT×aw->H} {w:aj} {base:Nat} {spare:Nat->Bool} {bV:Bool}
theorem qQ {l l2:List aw} (hn:l.length=l2.length) (h:∀i,i<l2.length->l[i]?=l2[i]?):l=l2:=List.ext_getElem? λi=>by
 by_cases hi:i<l2.length
 ·exact h i hi
 ·rw[List.getElem?_eq_none om,List.getElem?_eq_none om]
theorem ut {r:Reach} {b0:Nat} {v:aw} {d:DataW H} {p:List MemPlace} (hv:aw.okWide prog w r b0 68 v) (h:DataW.Trod enc prog w base spare bV 68 v d p) {B:Nat} (hB:∀n∈d.weights prog 68,n<=B) (hB2:B<=1125899906842624):∃D:ey,v= .agg D.cells/\rM w D:=by
 obtain⟨cs,rfl,hsz⟩:=okWide_struct underlying68 hv
 obtain⟨fuel,hf⟩:=h
 rw[show prog.cellsOf 68=58 by kernel_rfl]at hsz
 obtain⟨v0,m,y,h0,hy,hw⟩:=bD 8 (i:=0) (u:=22) kr hf
 have hb:=λc hc=>hB c (hw c hc)
 obtain⟨n0,N0,R0,r0,-,s0⟩:=fh (t:=22) (e:=129) (k:=7) underlying22 kr (by decide) kr (by decide+kernel) hy hb
 replace s0:=λi hi=>aO (s0 i hi) (show B<=9223372036854775806 by omega)
 obtain⟨v1,m,y,h1,hy,hw⟩:=bD 8 (i:=1) (u:=23) kr hf
 have hb:=λc hc=>hB c (hw c hc)
 obtain⟨n1,R1,r1,-⟩:=cC (t:=23) (e:=169) (k:=5) underlying23 kr (by decide) kr (by decide+kernel) hy hb
 obtain⟨v2,m,y,h2,hy,hw⟩:=bD 8 (i:=2) (u:=24) kr hf
 have hb:=λc hc=>hB c (hw c hc)
 obtain⟨n2,R2,r2,-⟩:=cC (t:=24) (e:=3) (k:=1) underlying24 kr (by decide) kr (by decide+kernel) hy hb
 obtain⟨z3,h3,-⟩:=bF (n:=8) (i:=3) (u:=3) kr underlying3 hf
 obtain⟨z4,h4,-⟩:=bF (n:=8) (i:=4) (u:=3) kr underlying3 hf
 obtain⟨v5,m,y,h5,hy,hw⟩:=bD 8 (i:=5) (u:=27) kr hf
 have hb:=λc hc=>hB c (hw c hc)
 obtain⟨n5,R5,r5,-⟩:=cC (t:=27) (e:=131) (k:=4) underlying27 kr (by decide) kr (by decide+kernel) hy hb
 obtain⟨v6,m,y,h6,hy,hw⟩:=bD 8 (i:=6) (u:=28) kr hf
 have hb:=λc hc=>hB c (hw c hc)
 obtain⟨n6,R6,r6,-⟩:=cC (t:=28) (e:=133) (k:=5) underlying28 kr (by decide) kr (by decide+kernel) hy hb
 obtain⟨z7,h7,-⟩:=bF (n:=8) (i:=7) (u:=3) kr underlying3 hf
 obtain⟨z8,h8,-⟩:=bF (n:=8) (i:=8) (u:=3) kr underlying3 hf
 obtain⟨z9,h9,-⟩:=bF (n:=8) (i:=9) (u:=3) kr underlying3 hf
 obtain⟨z10,h10,-⟩:=bF (n:=8) (i:=10) (u:=3) kr underlying3 hf
 obtain⟨z11,h11,-⟩:=bF (n:=8) (i:=11) (u:=3) kr underlying3 hf
 obtain⟨z12,h12,-⟩:=bF (n:=8) (i:=12) (u:=3) kr underlying3 hf
 obtain⟨z13,h13,-⟩:=bF (n:=8) (i:=13) (u:=3) kr underlying3 hf
 obtain⟨z14,h14,-⟩:=bF (n:=8) (i:=14) (u:=3) kr underlying3 hf
 obtain⟨z15,h15,-⟩:=bF (n:=8) (i:=15) (u:=3) kr underlying3 hf
 obtain⟨v16,m,y,h16,hy,hw⟩:=bD 8 (i:=16) (u:=37) kr hf
 have hb:=λc hc=>hB c (hw c hc)
 obtain⟨n16,R16,r16,-⟩:=cC (t:=37) (e:=97) (k:=3) underlying37 kr (by decide) kr (by decide+kernel) hy hb
 obtain⟨t17,h17,g17⟩:=nl (n:=8) (i:=17) (u:=9) kr underlying9 hf
 obtain⟨z18,h18,-⟩:=bF (n:=8) (i:=18) (u:=3) kr underlying3 hf
 obtain⟨z19,h19,-⟩:=bF (n:=8) (i:=19) (u:=3) kr underlying3 hf
 obtain⟨v20,m,y,h20,hy,hw⟩:=bD 8 (i:=20) (u:=38) kr hf
 have hb:=λc hc=>hB c (hw c hc)
 obtain⟨n20,R20,r20,-⟩:=cC (t:=38) (e:=175) (k:=2) underlying38 kr (by decide) kr (by decide+kernel) hy hb
 obtain⟨v21,m,y,h21,hy,hw⟩:=bD 8 (i:=21) (u:=39) kr hf
 have hb:=λc hc=>hB c (hw c hc)
 obtain⟨n21,R21,r21,-⟩:=cC (t:=39) (e:=179) (k:=13) underlying39 kr (by decide) kr (by decide+kernel) hy hb
 obtain⟨v22,m,y,h22,hy,hw⟩:=bD 8 (i:=22) (u:=40) kr hf
 have hb:=λc hc=>hB c (hw c hc)
 obtain⟨n22,N22,R22,r22,-,s22⟩:=fh (t:=40) (e:=185) (k:=13) underlying40 kr (by decide) kr (by decide+kernel) hy hb
 replace s22:=λi hi=>aO (s22 i hi) (show B<=9223372036854775806 by omega)
 obtain⟨z23,h23,-⟩:=bF (n:=8) (i:=23) (u:=3) kr underlying3 hf
 obtain⟨z24,h24,-⟩:=bF (n:=8) (i:=24) (u:=3) kr underlying3 hf
 obtain⟨z25,h25,-⟩:=bF (n:=8) (i:=25) (u:=3) kr underlying3 hf
 obtain⟨z26,h26,-⟩:=bF (n:=8) (i:=26) (u:=3) kr underlying3 hf
 obtain⟨z27,h27,-⟩:=bF (n:=8) (i:=27) (u:=3) kr underlying3 hf
 obtain⟨v28,m,y,h28,hy,hw⟩:=bD 8 (i:=28) (u:=24) kr hf
 have hb:=λc hc=>hB c (hw c hc)
 obtain⟨n28,R28,r28,-⟩:=cC (t:=24) (e:=3) (k:=1) underlying24 kr (by decide) kr (by decide+kernel) hy hb
 obtain⟨v29,m,y,h29,hy,hw⟩:=bD 8 (i:=29) (u:=45) kr hf
 have hb:=λc hc=>hB c (hw c hc)
 obtain⟨n29,R29,r29,-⟩:=cC (t:=45) (e:=102) (k:=2) underlying45 kr (by decide) kr (by decide+kernel) hy hb
 obtain⟨z30,h30,-⟩:=bF (n:=8) (i:=30) (u:=3) kr underlying3 hf
 obtain⟨z31,h31,-⟩:=bF (n:=8) (i:=31) (u:=3) kr underlying3 hf
 obtain⟨v32,m,y,h32,hy,hw⟩:=bD 8 (i:=32) (u:=48) kr hf
 have hb:=λc hc=>hB c (hw c hc)
 obtain⟨n32,N32,X32,K32,A32,C32,S32,F32,r32,f32,s32,k32⟩:=ne hy hb
 replace s32:=λi hi=>aO (s32 i hi) (show B<=9223372036854775806 by omega)
 obtain⟨v33,m,y,h33,hy,hw⟩:=bD 8 (i:=33) (u:=49) kr hf
 have hb:=λc hc=>hB c (hw c hc)
 obtain⟨n33,N33,R33,B33,r33,l33,s33⟩:=oq hy hb
 replace s33:=λi hi=>aO (s33 i hi) (show B<=9223372036854775806 by omega)
 obtain⟨v34,m,y,h34,hy,hw⟩:=bD 8 (i:=34) (u:=50) kr hf
 have hb:=λc hc=>hB c (hw c hc)
 obtain⟨n34,R34,r34,-⟩:=cC (t:=50) (e:=242) (k:=2) underlying50 kr (by decide) kr (by decide+kernel) hy hb
 obtain⟨v35,m,y,h35,hy,hw⟩:=bD 8 (i:=35) (u:=51) kr hf
 have hb:=λc hc=>hB c (hw c hc)
 obtain⟨n35,N35,R35,r35,-,s35⟩:=fh (t:=51) (e:=244) (k:=2) underlying51 kr (by decide) kr (by decide+kernel) hy hb
 replace s35:=λi hi=>aO (s35 i hi) (show B<=9223372036854775806 by omega)
 obtain⟨v36,m,y,h36,hy,hw⟩:=bD 8 (i:=36) (u:=52) kr hf
 have hb:=λc hc=>hB c (hw c hc)
 obtain⟨n36,N36,r36,-,s36⟩:=kj hy hb
 replace s36:=λi hi=>aO (s36 i hi) (show B<=9223372036854775806 by omega)
 obtain⟨v37,m,y,h37,hy,hw⟩:=bD 8 (i:=37) (u:=53) kr hf
 have hb:=λc hc=>hB c (hw c hc)
 obtain⟨n37,N37,R37,A37,L37,C37,K37,r37,-,s37,k37⟩:=nJ hy hb
 replace s37:=λi hi=>aO (s37 i hi) (show B<=9223372036854775806 by omega)
 obtain⟨z38,h38,-⟩:=bF (n:=8) (i:=38) (u:=3) kr underlying3 hf
 obtain⟨z39,h39,-⟩:=bF (n:=8) (i:=39) (u:=3) kr underlying3 hf
 obtain⟨v40,m,y,h40,hy,hw⟩:=bD 8 (i:=40) (u:=52) kr hf
 have hb:=λc hc=>hB c (hw c hc)
 obtain⟨n40,N40,r40,-,s40⟩:=kj hy hb
 replace s40:=λi hi=>aO (s40 i hi) (show B<=9223372036854775806 by omega)
 obtain⟨v41,m,y,h41,hy,hw⟩:=bD 8 (i:=41) (u:=56) kr hf
 have hb:=λc hc=>hB c (hw c hc)
 obtain⟨n41,N41,R41,r41,-,s41⟩:=fh (t:=56) (e:=200) (k:=3) underlying56 kr (by decide) kr (by decide+kernel) hy hb
 replace s41:=λi hi=>aO (s41 i hi) (show B<=9223372036854775806 by omega)
 obtain⟨v42,m,y,h42,hy,hw⟩:=bD 8 (i:=42) (u:=57) kr hf
 have hb:=λc hc=>hB c (hw c hc)
 obtain⟨n42,N42,TL42,TM42,TP42,LA42,LN42,LC42,LV42,AA42,AN42,AC42,AV42,F42,r42,f42,s42,l42,a42⟩:=ol hy hb
 replace s42:=λi hi=>aO (s42 i hi) (show B<=9223372036854775806 by omega)
 obtain⟨v43,m,y,h43,hy,hw⟩:=bD 8 (i:=43) (u:=24) kr hf
 have hb:=λc hc=>hB c (hw c hc)
 obtain⟨R43,r43,l43⟩:=gy hy hb
 obtain⟨z44,h44,-⟩:=bF (n:=8) (i:=44) (u:=3) kr underlying3 hf
 obtain⟨z45,h45,-⟩:=bF (n:=8) (i:=45) (u:=3) kr underlying3 hf
 obtain⟨z46,h46,-⟩:=bF (n:=8) (i:=46) (u:=3) kr underlying3 hf
 obtain⟨z47,h47,-⟩:=bF (n:=8) (i:=47) (u:=3) kr underlying3 hf
 obtain⟨z48,h48,-⟩:=bF (n:=8) (i:=48) (u:=3) kr underlying3 hf
 obtain⟨v49,m,y,h49,hy,hw⟩:=bD 8 (i:=49) (u:=60) kr hf
 have hb:=λc hc=>hB c (hw c hc)
 obtain⟨n49,N49,R49,r49,-,s49⟩:=fh (t:=60) (e:=206) (k:=6) underlying60 kr (by decide) kr (by decide+kernel) hy hb
 replace s49:=λi hi=>aO (s49 i hi) (show B<=9223372036854775806 by omega)
 obtain⟨v50,m,y,h50,hy,hw⟩:=bD 8 (i:=50) (u:=61) kr hf
 have hb:=λc hc=>hB c (hw c hc)
 obtain⟨n50,R50,r50,-⟩:=cC (t:=61) (e:=212) (k:=5) underlying61 kr (by decide) kr (by decide+kernel) hy hb
 obtain⟨v51,m,y,h51,hy,hw⟩:=bD 8 (i:=51) (u:=64) kr hf
 have hb:=λc hc=>hB c (hw c hc)
 obtain⟨n51,R51,r51,-⟩:=cC (t:=64) (e:=216) (k:=4) underlying64 kr (by decide) kr (by decide+kernel) hy hb
 obtain⟨z52,h52,-⟩:=bF (n:=8) (i:=52) (u:=3) kr underlying3 hf
 obtain⟨z53,h53,-⟩:=bF (n:=8) (i:=53) (u:=3) kr underlying3 hf
 obtain⟨z54,h54,-⟩:=bF (n:=8) (i:=54) (u:=3) kr underlying3 hf
 obtain⟨z55,h55,-⟩:=bF (n:=8) (i:=55) (u:=3) kr underlying3 hf
 obtain⟨z56,h56,-⟩:=bF (n:=8) (i:=56) (u:=3) kr underlying3 hf
 obtain⟨z57,h57,-⟩:=bF (n:=8) (i:=57) (u:=3) kr underlying3 hf
 have hl:cs.toList.length=58:=by simpa using hsz
 have hcs:cs.toList=[v0,v1,v2, .int .i64 z3, .int .i64 z4,v5,v6, .int .i64 z7, .int .i64 z8, .int .i64 z9, .int .i64 z10, .int .i64 z11, .int .i64 z12, .int .i64 z13, .int .i64 z14, .int .i64 z15,v16, .string t17, .int .i64 z18, .int .i64 z19,v20,v21,v22, .int .i64 z23, .int .i64 z24, .int .i64 z25, .int .i64 z26, .int .i64 z27,v28,v29, .int .i64 z30, .int .i64 z31,v32,v33,v34,v35,v36,v37, .int .i64 z38, .int .i64 z39,v40,v41,v42,v43, .int .i64 z44, .int .i64 z45, .int .i64 z46, .int .i64 z47, .int .i64 z48,v49,v50,v51, .int .i64 z52, .int .i64 z53, .int .i64 z54, .int .i64 z55, .int .i64 z56, .int .i64 z57]:=by
  refine qQ hl λi hi=>?_
  have hi2:i=0\/i=1\/i=2\/i=3\/i=4\/i=5\/i=6\/i=7\/i=8\/i=9\/i=10\/i=11\/i=12\/i=13\/i=14\/i=15\/i=16\/i=17\/i=18\/i=19\/i=20\/i=21\/i=22\/i=23\/i=24\/i=25\/i=26\/i=27\/i=28\/i=29\/i=30\/i=31\/i=32\/i=33\/i=34\/i=35\/i=36\/i=37\/i=38\/i=39\/i=40\/i=41\/i=42\/i=43\/i=44\/i=45\/i=46\/i=47\/i=48\/i=49\/i=50\/i=51\/i=52\/i=53\/i=54\/i=55\/i=56\/i=57:=by have hi3:i<58:=hi;omega
  rcases hi2 with rfl|rfl|rfl|rfl|rfl|rfl|rfl|rfl|rfl|rfl|rfl|rfl|rfl|rfl|rfl|rfl|rfl|rfl|rfl|rfl|rfl|rfl|rfl|rfl|rfl|rfl|rfl|rfl|rfl|rfl|rfl|rfl|rfl|rfl|rfl|rfl|rfl|rfl|rfl|rfl|rfl|rfl|rfl|rfl|rfl|rfl|rfl|rfl|rfl|rfl|rfl|rfl|rfl|rfl|rfl|rfl|rfl|rfl
  ·exact h0
  ·exact h1
  ·exact h2
  ·exact h3
  ·exact h4
  ·exact h5
  ·exact h6
  ·exact h7
  ·exact h8
  ·exact h9
  ·exact h10
  ·exact h11
  ·exact h12
  ·exact h13
  ·exact h14
  ·exact h15
  ·exact h16
  ·exact h17
  ·exact h18
  ·exact h19
  ·exact h20
  ·exact h21
  ·exact h22
  ·exact h23
  ·exact h24
  ·exact h25
  ·exact h26
  ·exact h27
  ·exact h28
  ·exact h29
  ·exact h30
  ·exact h31
  ·exact h32
  ·exact h33
  ·exact h34
  ·exact h35
  ·exact h36
  ·exact h37
  ·exact h38
  ·exact h39
  ·exact h40
  ·exact h41
  ·exact h42
  ·exact h43
  ·exact h44
  ·exact h45
  ·exact h46
  ·exact h47
  ·exact h48
  ·exact h49
  ·exact h50
  ·exact h51
  ·exact h52
  ·exact h53
  ·exact h54
  ·exact h55
  ·exact h56
  exact h57
 refine⟨{ns:=n0,N:=N0,S:=R0,nd:=n1,Q:=R1,nc:=n2,C:=R2,age:=z3,shear:=z4,sv:=v0,qv:=v1,cv:=v2,t:=⟨n5,R5,n6,R6,z7,z8,z9,z10,z11,z12,z13,z14,z15⟩,rv:=v5,av:=v6,dn:=n16,DX:=R16,dv:=v16,nm:=t17,glo:=z18,ghi:=z19,na:=n20,A:=R20,np:=n21,H:=R21,nf:=n22,FN:=N22,FR:=R22,fa:=v20,fp:=v21,fc:=v22,cx:=z23,cy:=z24,size:=z25,cols:=z26,rows:=z27,nz:=n28,ZR:=R28,zv:=v28,ln:=n29,LX:=R29,lv:=v29,rn:=z30,rd:=z31,kn:=n32,KN:=N32,KX:=X32,Ks:=K32,KA:=A32,KC:=C32,KS:=S32,kv:=v32,c:={pd:={zn:=n33,ZN:=N33,ZR:=R33,ZB:=B33,dn:=n34,DR:=R34,pn:=n35,PN:=N35,PR:=R35,kn:=n36,KN:=N36,qn:=n37,QN:=N37,QR:=R37,SA:=A37,SN:=L37,SC:=C37,QK:=K37,panel:=z38,wait:=z39,vz:=v33,vd:=v34,vp:=v35,vk:=v36,vq:=v37},sn:=n40,SN:=N40,bn:=n41,BN:=N41,BR:=R41,tn:=n42,TN:=N42,TL:=TL42,TM:=TM42,TP:=TP42,LA:=LA42,LN:=LN42,LC:=LC42,LV:=LV42,AA:=AA42,AN:=AN42,AC:=AC42,AV:=AV42,pn:=vN v43,PV:=R43,wlo:=z44,whi:=z45,vs:=v40,vb:=v41,vt:=v42,vp:=v43},tf:=z46,ts:=z47,ta:=z48,tt:=n49,TN:=N49,TR:=R49,tp:=n50,TQ:=R50,tv:=v49,pv:=v50,en:=n51,EL:=R51,elo:=z52,ehi:=z53,ew:=z54,eb:=z55,ev:=v51,margin:=z56,slack:=z57},by rw[show cs=cs.toList.toArray by simp,hcs];rfl,?_⟩
 have q42:∀i k,i<n42->k<4->aU w (.slice (LA42 i k) (LN42 i k) (LC42 i k)) (LN42 i k) 1 (bw λj _=>LV42 i k j)/\LN42 i k<=1125899906842624:=λi k hi hk=>⟨(l42 i k hi hk).1,aO (l42 i k hi hk).2 hB2⟩
 exact{
  w1:=r0,w2:=r1,w3:=r2,wn:=s0,a1:=r5,a2:=r6,d:=r16,fn:=aO (hB _ g17) om,f1:=r20,f2:=r21,f3:=r22,ff:=s22,z:=r28,l:=r29
  k:=r32.congr (λi j hi hj=>by
   obtain⟨e0,e1,e2,e3,e4,e5⟩:=f32 i hi
   have hj2:j=0\/j=1\/j=2\/j=3\/j=4\/j=5:=om
   rcases hj2 with rfl|rfl|rfl|rfl|rfl|rfl<;>assumption)
  ks:=k32,kk:=s32
  c:={
   p:={z:=r33,d:=r34,p:=r35,k:=r36,q:=r37,s:=λi hi=>(k37 i hi).1,nz:=s33,np:=s35,nk:=s36,nq:=s37,ls:=λi hi=>aO (k37 i hi).2 hB2,lz:=aO l33 om},s:=r40,b:=r41
   t:=r42.congr (λi j hi hj=>by
    obtain⟨e0,e1,e2,e3,e4,e5,e6,e7,e8⟩:=f42 i hi
    have hj2:j=0\/j=1\/j=2\/j=3\/j=4\/j=5\/j=6\/j=7\/j=8:=om
    rcases hj2 with rfl|rfl|rfl|rfl|rfl|rfl|rfl|rfl|rfl<;>assumption)
   l:=q42,a:=a42,q:=r43,lp:=aO l43 hB2,ns:=s40,nb:=s41,nt:=s42}
  t1:=r49,t2:=r50,tt:=s49,e:=r51}
end
end
end Go.Proofs.YtbpnallaifdcpaaGreatDoor
