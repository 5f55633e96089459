/- Parts of the proof: rows of structs, walks told in few words. -/
import Derived.BigQuiet
import Derived.Carry
import Derived.Deep.AppendLies
import Derived.Deep.AppendSrc
import Derived.Deep.CutBlock
import Derived.Deep.DeepCutAuto
import Derived.Deep.MidRow
import Derived.Deep.QuietTactic
import Derived.Deep.RegionHeld3
import Derived.Deep.RegionLaw
import Derived.Deep.Slices
import Derived.DeepKeys4
import Derived.IntWalk
import Derived.Laws.CopyOwn
import Derived.Laws.StructEq
import Derived.Lib.ConvBytes
import Derived.Lib.Hide
import Derived.LoopIn
import Derived.LoopNIn
import Derived.Maps.AppendAt
import Derived.Maps.Own
import Derived.Maps.OwnOps
import Derived.Maps.OwnSet
import Derived.Maps.Views
import Derived.OpenShut
import Derived.Outline
import Derived.OwnWalk
import Derived.OwnWalkIn
import Derived.RangeFuncBound
import Derived.RangeFuncCalls
import Derived.RangeFuncLeaves
import Derived.RangeFuncNested
import Derived.Shelf.Abstract
import Derived.Shelf.Bits.Mul64
import Derived.TacticsInMore
import Derived.WalkArith
import Derived.WalkKit
import Derived.WalkLawsBesides
import Derived.WalkSmall
import Derived.WalkSpells
import Derived.WideKeyEntry
import Derived.WideKeyPair
import Derived.Test.YtbpnallaifdcpaaGreatDoorProg
set_option linter.unusedVariables false
set_option linter.unusedSimpArgs false
set_option maxRecDepth 100000
set_option maxHeartbeats 4000000
namespace Go.Proofs.YtbpnallaifdcpaaGreatDoor
open Go.Value renaming int→M
open Go.IntKind renaming i64→U
open Go.Value renaming slice→T,string→ay,bool→aA,agg→aN
open Go.Lib renaming hid→af
open Option renaming none→ag,some→ai
open Go renaming World→aj,Value→aw,Calls→aC,below_drewN→aM,TypeId→aT,bodyPost_ret→bG,wpList_append_lies→ci,maxLen→cF
open Go.RowKit renaming Below→ap,intOf→aV,Hid→bj
open Go.Ending renaming returned→ar
open Go.RowKit.Below renaming refl→au,setCell→aS
open Nat renaming zero_le→aF,lt_of_lt_of_le→aQ,le_refl→aY,add_zero→bq
open Go.World renaming block_lt_of_cell?→aG,size_alloc→bg
open Go.Code renaming wp→bi
theorem om{p:Prop}(h:p:=by omega):p:=h
theorem kr{p:Prop}(h:p:=by kernel_rfl):p:=h
section
def ph (k:Nat) (c:UInt8):Bool:=!(decide (97<=c.toNat)&&decide (c.toNat<=122))&&(k==0||c.toNat != 45&&!(decide (48<=c.toNat)&&decide (c.toNat<=57)))
def cY:List UInt8->Nat->Bool
 |[],_=>false
 |c :: l,k=>ph k c||cY l (k+1)
def dq (s:List UInt8):Bool:=!cY s 0&&decide (1<=s.length)&&decide (s.length<=24)
def aI (n lo hi:Int):Bool:=decide (n<lo)||decide (hi<n)
theorem aW {n lo hi:Int}:aI n lo hi=false↔lo<=n/\n<=hi:=by
 unfold aI
 simp only[Bool.or_eq_false_iff,decide_eq_false_iff_not]
 omega
end
section
open Tryz
open Go.RowKit
section
variable {P:Program} {ops:Array Oper} {Q:Exit->Act->aj->Prop} {md:Region.Mode} {S S':aj->Prop}
end
def fY:Code->Nat->Option Code
 | .region i o d,n=>if i=n then ai (.region i o d)else ag
 | .seq a b,n=>match fY a n with
  |some c=>ai c
  |none=>fY b n
 | .cond _ a b,n=>match fY a n with
  |some c=>ai c
  |none=>fY b n
 | .block _ a,n=>fY a n
 | .loop a,n=>fY a n
 | .scope a,n=>fY a n
 |_,_=>ag
def et (f:Func) (n:Nat):Code:=match f.body with
 |some c=>match fY c n with
  |some r=>r
  |none=> .skip
 |none=> .skip
def fq:Code->Nat->Option Code
 | .seq (.region i _ _) b,n=>if i=n then ai b else fq b n
 | .seq a b,n=>match fq a n with
  |some c=>ai c
  |none=>fq b n
 | .cond _ a b,n=>match fq a n with
  |some c=>ai c
  |none=>fq b n
 | .block _ a,n=>fq a n
 | .loop a,n=>fq a n
 | .scope a,n=>fq a n
 |_,_=>ag
def tlOf (f:Func) (n:Nat):Code:=match f.body with
 |some c=>match fq c n with
  |some r=>r
  |none=> .skip
 |none=> .skip
def am (W:aj) (b:Nat) (t:aT) (cs:Array aw):Prop:=W.heap[b]?=ai (.cells cs t (0,0))
theorem am.cell {W:aj} {b:Nat} {t:aT} {cs:Array aw} (h:am W b t cs) (i:Nat):W.cell? ⟨b,i,ag⟩=cs[i]?:=by
 unfold am at h;simp[aj.cell?,h]
theorem am.frozen {W:aj} {b:Nat} {t:aT} {cs:Array aw} (h:am W b t cs) (i:Nat):W.frozen? ⟨b,i,ag⟩=false:=by
 unfold am at h;simp[aj.frozen?,h]
theorem am.set {W:aj} {b:Nat} {t:aT} {cs:Array aw} (h:am W b t cs) (i:Nat) (v:aw):am (W.setCell ⟨b,i,ag⟩ v) b t (cs.setIfInBounds i v):=by
 obtain⟨hlt,hk⟩:=Array.getElem?_eq_some_iff.1 h
 show(W.heap.modify b _)[b]?=_
 rw[Array.getElem?_eq_getElem (by rw[Array.size_modify];exact hlt),Array.getElem_modify_self,hk]
 rfl
theorem am.set_other {W:aj} {b:Nat} {t:aT} {cs:Array aw} (h:am W b t cs) {p:Addr} (hp:p.block≠b) (v:aw):am (W.setCell p v) b t cs:=
 (ap.heap_setCell W p v b (λe=>hp e.symm)).trans h
theorem am.lt {W:aj} {b:Nat} {t:aT} {cs:Array aw} (h:am W b t cs):b<W.heap.size:=(Array.getElem?_eq_some_iff.1 h).1
theorem eW {W:aj} {b:Nat} {t:aT} {a0 a1 a2 a3:aw} (h:am W b t #[a0,a1,a2,a3]):W.cell? ⟨b,0,ag⟩=ai a0/\W.cell? ⟨b,1,ag⟩=ai a1/\W.cell? ⟨b,2,ag⟩=ai a2/\W.cell? ⟨b,3,ag⟩=ai a3:=
 ⟨h.cell 0,h.cell 1,h.cell 2,h.cell 3⟩
theorem dT {W:aj} {b:Nat} {t:aT} {a0 a1 a2:aw} (h:am W b t #[a0,a1,a2]):W.cell? ⟨b,0,ag⟩=ai a0/\W.cell? ⟨b,1,ag⟩=ai a1/\W.cell? ⟨b,2,ag⟩=ai a2:=
 ⟨h.cell 0,h.cell 1,h.cell 2⟩
theorem wl {W:aj} {b:Nat} {t:aT} {cs:Array aw} (h:am W b t cs):W.frozen? ⟨b,0,ag⟩=false/\W.frozen? ⟨b,1,ag⟩=false/\W.frozen? ⟨b,2,ag⟩=false/\W.frozen? ⟨b,3,ag⟩=false:=
 ⟨h.frozen 0,h.frozen 1,h.frozen 2,h.frozen 3⟩
theorem tY {W:aj} {b:Nat} {t:aT} {a0 a1 a2:aw} (h:am W b t #[a0,a1,a2]) (u0 u1 u2:aw):am (((W.setCell ⟨b,0,ag⟩ u0).setCell ⟨b,1,ag⟩ u1).setCell ⟨b,2,ag⟩ u2) b t #[u0,u1,u2]:=by
 have h3:=((h.set 0 u0).set 1 u1).set 2 u2
 simpa using h3
theorem gs {B:Nat} {w W:aj} {b:Nat} (h:ap B w W) (hb:B<=b) (u0 u1 u2:aw):ap B w (((W.setCell ⟨b,0,ag⟩ u0).setCell ⟨b,1,ag⟩ u1).setCell ⟨b,2,ag⟩ u2):=
 aS (aS (aS h hb _) hb _) hb _
theorem am.below {W W':aj} {b:Nat} {t:aT} {cs:Array aw} (h:am W b t cs) (hb:ap W.heap.size W W'):am W' b t cs:=(hb.block b h.lt).trans h
theorem mn {W W':aj} {b:Nat} {t:aT} {cs:Array aw} {v:aw} (h:am W b t cs) (hg:W.grownBy W' v.ownBlock) (hn:∀g,v.ownBlock=ai g->g≠b):am W' b t cs:=
 (hg.block b h.lt (λe=>hn b e.symm rfl)).trans h
theorem sX {w:aj} {B b n size:Nat} {e:aT} {v:aw} {xs:List aw} (h:w.ownsRow B e size v n xs) (hb:b<B):∀g,v.ownBlock=ai g->g≠b:=λg hg=>by have:=(aj.ownsRow.lt h g hg).1;omega
theorem cK {w w':aj} {b:Nat} {e:aT} {size:Nat} {v:aw} {n:Nat} {xs:List aw} (h:w.ownsRow b e size v n xs) (hb:ap w.heap.size w w'):w'.ownsRow b e size v n xs:=by
 obtain⟨h1,h2|⟨g,cap,cur,h3,h4,h5,h6⟩⟩:=h
 ·exact⟨h1, .inl h2⟩
 refine⟨h1, .inr ⟨g,cap,cur,h3,h4,?_,h6⟩⟩
 rw[hb.block g (Array.getElem?_eq_some_iff.1 h5).1];exact h5
theorem gO {w w' W:aj} {row:aw} (h:ap W.heap.size W w) (hg:w.grownBy w' row.ownBlock) (hr:∀g,row.ownBlock=ai g->W.heap.size<=g):ap W.heap.size W w':=h.grown hg h.size hr
end
section
open Tryz
open Go
section
variable {P:Program} {ops:Array Oper} {Q:Exit->Act->aj->Prop} {md:Region.Mode} {S:aj->Prop} {l:Nat}
def cQ (P:Program) (md:Region.Mode) (ops:Array Oper) (Q:Exit->Act->aj->Prop) (S:aj->Prop) (l:Nat):Nat->Array Bool->Act->aj->Prop
 |0,listed,a,w=>Region.ready md ops listed=[]/\Q .normal a w
 |fuel+1,listed,a,w=>
  (Region.ready md ops listed=[]->Q .normal a w)/\
  ∀i∈Region.ready md ops listed,wpOp P ops Q i (λa' w'=>((listed.setIfInBounds i true).getD l true=false->S w')/\cQ P md ops Q S l fuel (listed.setIfInBounds i true) a' w') a w
theorem gd:∀(fuel:Nat) (listed:Array Bool) (a:Act) (w:aj),cQ P md ops Q S l fuel listed a w->wpAny P md ops Q fuel listed a w
 |0,_,_,_,h=>h
 |fuel+1,_,_,_,h=>⟨h.1,λi hi=>wpOp_mono (λa' w' h'=>gd fuel _ a' w' h'.2) (h.2 i hi)⟩
def km (md:Region.Mode) (ops:Array Oper):Nat->List Nat->Bool
 |_,[]=>true
 |i,c :: ch=>((ops[c]?).map λo=>o.after.toList.any λe=>Region.binds md e&&e.on==i).getD false&&km md ops c ch
theorem lM {listed:Array Bool} {i:Nat} (h0:listed.getD i true=false) (h1:listed.getD i false=true):False:=by
 rcases Nat.lt_or_ge i listed.size with h'|h'
 ·simp[h']at h0 h1;rw[h0]at h1;cases h1
 simp[Array.getElem?_eq_none h']at h1
theorem gm {listed:Array Bool}:∀{i:Nat} {ch:List Nat},km md ops i ch=true->listed.getD i true=false->(∀c∈ch,listed.getD c true=false)->∀c∈ch,c ∉ Region.ready md ops listed
 |i,[],_,_,_,c,hc=>by cases hc
 |i,d :: ch,hl,hi,hu,c,hc=>by
  simp only[km,Bool.and_eq_true]at hl
  rcases List.mem_cons.1 hc with rfl|hc
  ·intro hr
   obtain⟨_,o,ho,hall⟩:=mem_ready.1 hr
   have h1:=hl.1
   rw[ho]at h1
   simp only[Option.map_some,Option.getD_some,List.any_eq_true,Bool.and_eq_true,beq_iff_eq]at h1
   obtain⟨e,he,hb,hon⟩:=h1
   exact lM hi (hon▸hall e (by simpa using he) hb)
  ·exact gm hl.2 (hu d (by simp)) (λc hc=>hu c (by simp[hc])) c hc
theorem lG {i:Nat} {oi:Oper} {v:aw} {ch:List Nat} (hi:ops[i]?=ai oi) (hsel:∀(j:Nat) (o:Oper) cs b,ops[j]?=ai o->o.op≠ .select cs b)
  (hQ:∀c a w,Q (.panic c) (a.put oi.dst v) w->Q (.panic c) a w) (hch:km md ops i ch=true) (hl:l∈ch):
  ∀(fuel:Nat) (listed:Array Bool) (a:Act) (w:aj),
   (∀j oj,ops[j]?=ai oj->j≠i->listed.getD j true=false->(∀e∈oj.after,Region.binds md e=true->e.on≠i)->oi.apart ops oj=true)->
   i∈Region.ready md ops listed->(∀c∈ch,listed.getD c true=false)->YieldsIf P ops S oi v a->S w->
   cQ P md ops Q S l fuel (listed.setIfInBounds i true) (a.put oi.dst v) w->cQ P md ops Q S l (fuel+1) listed a w:=by
 intro fuel
 induction fuel with
 |zero=>
  intro listed a w _ hr _ hy hS H
  refine⟨λh=>(by rw[h]at hr;cases hr),λj hj=>?_⟩
  by_cases hji:j=i
  ·subst hji;exact hy.wpOp hi hS ⟨λ_=>hS,H⟩
  have:=ready_mono hj hji
  rw[H.1]at this
  cases this
 |succ fuel ih=>
  intro listed a w hfree hr hu hy hS H
  refine⟨λh=>(by rw[h]at hr;cases hr),λj hj=>?_⟩
  by_cases hji:j=i
  ·subst hji;exact hy.wpOp hi hS ⟨λ_=>hS,H⟩
  have h1:=H.2 j (ready_mono hj hji)
  obtain⟨hjun,oj,hoj,hall⟩:=mem_ready.1 hj
  have hiun:=(mem_ready.1 hr).1
  have hnr:=gm hch hiun hu
  have hjc:∀c∈ch,j≠c:=λc hc e=>hnr c hc (e▸hj)
  have hil:i≠l:=λe=>hnr l hl (e▸hr)
  have hnot:∀e∈oj.after,Region.binds md e=true->e.on≠i:=λe he hb heq=>lM hiun (heq▸hall e he hb)
  have h2:=wpOp_putIf hoj (hfree j oj hoj hji hjun hnot) (λcs b=>hsel i oi cs b hi) (λcs b=>hsel j oj cs b hoj) hQ hy h1
  have hfree':∀k ok,ops[k]?=ai ok->k≠i->(listed.setIfInBounds j true).getD k true=false->
    (∀e∈ok.after,Region.binds md e=true->e.on≠i)->oi.apart ops ok=true:=λk ok hk hki hun hno=>by
   refine hfree k ok hk hki ?_ hno
   by_cases hjk:j=k
   ·subst hjk;exact hjun
   rw[getD_set_ne true hjk]at hun;exact hun
  have hu':∀c∈ch,(listed.setIfInBounds j true).getD c true=false:=λc hc=>by rw[getD_set_ne true (hjc c hc)];exact hu c hc
  have hlu:((listed.setIfInBounds i true).setIfInBounds j true).getD l true=false:=by
   rw[getD_set_ne true (hjc l hl),getD_set_ne true hil];exact hu l hl
  refine wpOp_mono (λa' w' h3=>⟨λ_=>h3.2.1 hlu,ih (listed.setIfInBounds j true) a' w' hfree' (ready_mono hr (Ne.symm hji)) hu' h3.1 (h3.2.1 hlu) ?_⟩) h2
  rw[Array.setIfInBounds_comm _ _ hji]
  exact h3.2.2
theorem mu {i:Nat} {oi:Oper} {v:aw} {ch:List Nat} {fuel:Nat} {listed:Array Bool} {a:Act} {w:aj} (hi:ops[i]?=ai oi)
  (hs:Region.noSelect ops=true) (hf:Region.free md ops listed i=true) (hr:(Region.ready md ops listed).contains i=true) (hch:(km md ops i ch&&ch.contains l&&ch.all λc=>!listed.getD c true)=true)
  (hQ:∀c a w,Q (.panic c) (a.put oi.dst v) w->Q (.panic c) a w) (hy:YieldsIf P ops S oi v a) (hS:S w)
  (h:cQ P md ops Q S l fuel (listed.setIfInBounds i true) (a.put oi.dst v) w):cQ P md ops Q S l (fuel+1) listed a w:=by
 simp only[Bool.and_eq_true]at hch
 exact lG hi (Region.noSelect_spec hs) hQ hch.1.1 (by simpa using hch.1.2) fuel listed a w (Region.free_spec hi hf) (by simpa using hr) (λc hc=>by have:=List.all_eq_true.1 hch.2 c hc;simpa using this) hy hS h
theorem jF {i:Nat} {o:Oper} {fuel:Nat} {listed:Array Bool} {a:Act} {w:aj} (hr:Region.ready md ops listed=[i]) (ho:ops[i]?=ai o)
  (h:∀K':Act->aj->Prop,Shut (∀a w,((listed.setIfInBounds i true).getD l true=false->S w)->cQ P md ops Q S l fuel (listed.setIfInBounds i true) a w->K' a w)->if Region.wanted o (yielded ops a.tmps)=true then Oper.wp P o a w K' Q else K' (a.put o.dst undef) w):
  cQ P md ops Q S l (fuel+1) listed a w:=
 ⟨λh0=>absurd (hr.symm.trans h0) (by simp),λj hj=>by
  rw[hr]at hj
  obtain rfl:j=i:=by simpa using hj
  exact wpOp_step ho (λK' hK=>h K' (λa w hS hW=>hK a w ⟨hS,hW⟩))⟩
theorem gt {listed:Array Bool} {a:Act} {w:aj} (hr:Region.ready md ops listed=[]) (h:Q .normal a w):
  ∀fuel,cQ P md ops Q S l fuel listed a w
 |0=>⟨hr,h⟩
 |_+1=>⟨λ_=>h,by rw[hr];simp⟩
theorem fV {id:Nat} {a:Act} {w:aj} (l:Nat) (S:aj->Prop) (hm:P.follows .mixedOrders=true)
  (h:cQ P .any ops Q S l ops.size (Array.replicate ops.size false) a w.drew):(Code.region id ops true).wp P Q a w:=
 wp_region_any hm (gd _ _ _ _ h)
end
end
section
open Tryz
open Go.RowKit
theorem bJ {k:IntKind} {a b:Int} (h:a=b):Ending.returned (.int k a)=ar (.int k b):=by rw[h]
theorem bt {a b:Bool} (h:a=b):Ending.returned (aA a)=ar (aA b):=by rw[h]
theorem aP {w w1:aj} (h:ap w.heap.size w w1) (o:Obj):ap w.heap.size w (w1.alloc o):=h.alloc h.size o
theorem ak {w w1 w2:aj} (h:ap w.heap.size w w1) (k:ap w1.heap.size w1 w2):ap w.heap.size w w2:=
 h.trans (k.mono h.size)
theorem gI {P:Program} {f:FuncId} {args:Array aw} {w:aj} {n:Nat} {v:aw}
  (h:aC P f args (w.drewN n) λe w'=>e=ar v/\w.drewN n=w'):aC P f args (w.drewN n) λe w''=>e=ar v/\∃m,w''=w.drewN m:=
 h.mono λ_ _ ⟨he,hm⟩=>⟨he,n,hm.symm⟩
theorem iV (n lo hi:Int) (w:aj):
  aC prog 25 #[M U n,M U lo,M U hi] w λe w'=>e=ar (aA (aI n lo hi))/\w=w':=by
 go_enter func25,ntmps25
 go_wp2
 all_goals(go_ret;exact⟨bt (by simp[aI, *]<;>omega),rfl⟩)
theorem cI (n lo hi:Int) (w:aj):
  aC prog 71 #[M U n,M U lo,M U hi] w λe w'=>e=ar (aA (aI n lo hi))/\w=w':=by
 go_enter func71,ntmps71
 go_wp2
 all_goals(go_ret;exact⟨bt (by simp[aI, *]<;>omega),rfl⟩)
theorem i7 (n lo hi:Int) (w:aj):
  aC prog 43 #[M U n,M U lo,M U hi] w λe w'=>e=ar (aA (!aI n lo hi))/\w=w':=by
 go_enter func43,ntmps43
 go_wp2
 all_goals(go_ret;exact⟨bt (by rw[Bool.eq_iff_iff];simp[aI, *];try omega),rfl⟩)
theorem iv (w:aj) (e:aT) (s:ByteArray):ap w.heap.size w (Lib.bytesWorld w e s):=
 ⟨rfl,rfl,rfl,by rw[Lib.bytesWorld_size];omega,λk hk=>Lib.bytesWorld_at_old w e s k hk⟩
theorem ie (l:List UInt8) (k:Nat) (h:k<l.length):cY (l.drop k) k=(ph k (l.getD k 0)||cY (l.drop (k+1)) (k+1)):=by
 rw[List.drop_eq_getElem_cons h]
 simp[cY,List.getD_eq_getElem?_getD,List.getElem?_eq_getElem h]
theorem iI (l:List UInt8):cY (l.drop l.length) l.length=false:=by simp[cY]
def ed (k:Nat) (x:Int):Bool:=!(decide (97<=x)&&decide (x<=122))&&(k==0||x != 45&&!(decide (48<=x)&&decide (x<=57)))
theorem pw (k:Nat) (c:UInt8):ph k c=ed k (c.toNat:Int):=by
 unfold ph ed
 have e1:decide (97<=c.toNat)=decide ((97:Int)<=(c.toNat:Int)):=by congr 1;simp;omega
 have e2:decide (c.toNat<=122)=decide ((c.toNat:Int)<=122):=by congr 1;simp;omega
 have e3:decide (48<=c.toNat)=decide ((48:Int)<=(c.toNat:Int)):=by congr 1;simp;omega
 have e4:decide (c.toNat<=57)=decide ((c.toNat:Int)<=57):=by congr 1;simp;omega
 have e5:(c.toNat != 45)=((c.toNat:Int) != 45):=by
  rw[Bool.eq_iff_iff];simp;omega
 rw[e1,e2,e3,e4,e5]
theorem cS (s:ByteArray) (w:aj) (hs:s.size<=9223372036854775806):
  aC prog 58 #[ay s] w λe w'=>e=ar (aA (dq s.data.toList))/\ap w.heap.size w w':=by
 have hconv:=Lib.run_convert_string_bytes (P:=prog) w 9 257 5 s underlying9 underlying257 underlying5
 have hB:=iv w 5 s
 have hC:=Lib.bytesWorld_cell w 5 s
 generalize Lib.bytesWorld w 5 s=w1 at hconv hB hC
 have HC:=af hC
 clear hC
 go_enter func58,ntmps58
 go_wp2_with fail
 clear hconv
 go_loop [8] (λi=>∃k:Nat,k<=s.size/\i=M U k/\bj (cY s.data.toList 0=cY (s.data.toList.drop k) k)) (λi=>s.size - (aV i).toNat)
 case atStart=>exact⟨0,aF _,rfl,rfl⟩
 case round=>
  obtain⟨k,hk,rfl,HI⟩:=hrel
  by_cases hlt:k<s.size
  rotate_left
  ·obtain rfl:k=s.size:=by omega
   go_wp2_with (go_at_call 71;refine(cI _ _ _ _).mono ?_;rintro e w' ⟨rfl,rfl⟩)
   go_ret
   refine⟨bt ?_,hB⟩
   have e:s.data.toList.length=s.size:=by simp
   unfold dq aI
   rw[HI.out,<-e,iI]
   simp only[Bool.not_false,Bool.true_and]
   rw[Bool.eq_iff_iff]
   simp
   omega
  have hck:=HC.out k hlt
  have HS:=af (ie s.data.toList k (by simpa using hlt))
  rw[pw]at HS
  have hx0:(0:Int)<=(s.data.toList.getD k 0).toNat:=by omega
  have hx1:((s.data.toList.getD k 0).toNat:Int)<256:=by have:=(s.data.toList.getD k 0).toNat_lt;omega
  generalize((s.data.toList.getD k 0).toNat:Int)=x at *
  have hx:x<45\/(45<=x/\x<=45)\/(46<=x/\x<=47)\/(48<=x/\x<=57)\/(58<=x/\x<=96)\/(97<=x/\x<=122)\/123<=x:=by omega
  have hkk:k<=0\/1<=k:=by omega
  rcases hx with h|⟨h,h'⟩|⟨h,h'⟩|⟨h,h'⟩|⟨h,h'⟩|⟨h,h'⟩|h<;>rcases hkk with hk0|hk0
  all_goals(try have q1:((k:Int)==0)=false:=beq_eq_false_iff_ne.2 (by omega))
  all_goals(try have q2:(x != 45)=true:=bne_iff_ne.2 (by omega))
  all_goals(try have q3:decide (x<=57)=false:=decide_eq_false (by omega))
  all_goals(try have q4:decide (x<=122)=false:=decide_eq_false (by omega))
  all_goals(go_wp2_with fail)
  all_goals(first
   |(go_ret;refine⟨bt ?_,hB⟩
     have hcb:ed k x=true:=by(unfold ed;simp;omega)
     unfold dq;rw[HI.out,HS.out,hcb];simp;done)
   |(go_round
     case rel=>
      have hcb:ed k x=false:=by(unfold ed;simp;omega)
      exact⟨k+1,by omega,by go_num,by unfold bj;rw[HI.out,HS.out,hcb];simp⟩
     case measure=>(simp[aV];omega)))
end
section
open Tryz
open Go.RowKit
section
variable {P:Program} {md:Region.Mode} {ops:Array Oper} {Q:Exit->Act->aj->Prop} {S:aj->Prop} {l fuel:Nat} {listed:Array Bool} {a a':Act} {w:aj}
theorem jN {G G':Prop} (k:G') (h:G'->G:=by intro hk;(try simp only[Act.put,List.setIfInBounds_toArray,List.set_cons_zero,List.set_cons_succ,List.getElem_toArray,List.getElem_cons_succ,List.getElem_cons_zero]);exact hk):G:=h k
theorem br (i:Nat) {oi:Oper} {v:aw} (hS:S w)
  (h:wpAnyH P md ops Q S fuel (listed.setIfInBounds i true) a' w)
  (hi:ops[i]?=ai oi:=by rfl) (hs:Region.noSelect ops=true:=by kernel_rfl) (hf:Region.free md ops listed i=true:=by kernel_rfl) (hr:(Region.ready md ops listed).contains i=true:=by kernel_rfl)
  (hy:YieldsIf P ops S oi v a:=by first|(refine Or.inl ⟨by rfl,?_⟩;intro w' hSw;have y:=HR.out w' hSw;go_simp;(try with_reducible rfl);done)|exact Or.inr ⟨by rfl,rfl⟩)
  (hQ:∀c a w,Q (.panic c) (a.put oi.dst v) w->Q (.panic c) a w:=by first|exact λ_ _ _ h=>h|exact λ_ _ _ h=>HQQ.out _ _ _ _ _ h|exact λ_ _ _ h=>HQQ.out _ _ _ _ _ kr h)
  (ea:a.put oi.dst v=a':=by simp only[Act.put,List.setIfInBounds_toArray,List.set_cons_zero,List.set_cons_succ,List.getElem_toArray,List.getElem_cons_succ,List.getElem_cons_zero];exact rfl):
  wpAnyH P md ops Q S (fuel+1) listed a w:=by
 subst ea
 exact wpAnyH_take hi hs hf hr hQ hy hS h
theorem iZ (i:Nat) (ch:List Nat) {oi:Oper} {v:aw} (hS:S w)
  (h:cQ P md ops Q S l fuel (listed.setIfInBounds i true) a' w)
  (hi:ops[i]?=ai oi:=by rfl) (hs:Region.noSelect ops=true:=by kernel_rfl) (hf:Region.free md ops listed i=true:=by kernel_rfl) (hr:(Region.ready md ops listed).contains i=true:=by kernel_rfl)
  (hch:(km md ops i ch&&ch.contains l&&ch.all λc=>!listed.getD c true)=true:=by kernel_rfl)
  (hy:YieldsIf P ops S oi v a:=by refine Or.inl ⟨by rfl,?_⟩;intro w' hSw;have y:=HR.out w' hSw;go_simp;(try with_reducible rfl);done)
  (hQ:∀c a w,Q (.panic c) (a.put oi.dst v) w->Q (.panic c) a w:=by first|exact λ_ _ _ h=>h|exact λ_ _ _ h=>HQQ.out _ _ _ _ _ h)
  (ea:a.put oi.dst v=a':=by simp only[Act.put,List.setIfInBounds_toArray,List.set_cons_zero,List.set_cons_succ,List.getElem_toArray,List.getElem_cons_succ,List.getElem_cons_zero];exact rfl):
  cQ P md ops Q S l (fuel+1) listed a w:=by
 subst ea
 exact mu hi hs hf hr hch hQ hy hS h
theorem cL (i:Nat) {o:Oper} {G:(Act->aj->Prop)->Prop}
  (k:∀K':Act->aj->Prop,Shut (∀a w,S w->(S w->wpAnyH P md ops Q S fuel (listed.setIfInBounds i true) a w)->K' a w)->G K')
  (hr:Region.ready md ops listed=[i]:=by kernel_rfl) (ho:ops[i]?=ai o:=by rfl)
  (h:∀K':Act->aj->Prop,G K'->if Region.wanted o (yielded ops a.tmps)=true then Oper.wp P o a w K' Q else K' (a.put o.dst undef) w:=by intro K' hk;go_simp;exact hk):
  wpAnyH P md ops Q S (fuel+1) listed a w:=
 wpAnyH_ready hr (by simp) (AllReadyH.cons ho (λK' hK'=>h K' (k K' hK')) AllReadyH.nil)
theorem pW (i:Nat) {o:Oper} {G:(Act->aj->Prop)->Prop}
  (k:∀K':Act->aj->Prop,Shut (∀a w,((listed.setIfInBounds i true).getD l true=false->S w)->cQ P md ops Q S l fuel (listed.setIfInBounds i true) a w->K' a w)->G K')
  (hr:Region.ready md ops listed=[i]:=by kernel_rfl) (ho:ops[i]?=ai o:=by rfl)
  (h:∀K':Act->aj->Prop,G K'->if Region.wanted o (yielded ops a.tmps)=true then Oper.wp P o a w K' Q else K' (a.put o.dst undef) w:=by intro K' hk;go_simp;exact hk):
  cQ P md ops Q S l (fuel+1) listed a w:=
 jF hr ho (λK' hK'=>h K' (k K' hK'))
theorem bO {K':Act->aj->Prop} (hK':Shut (∀a w,S w->(S w->wpAnyH P md ops Q S fuel listed a w)->K' a w)) (hS:S w)
  (k:wpAnyH P md ops Q S fuel listed a' w)
  (ea:a=a':=by(try simp only[Act.put,List.setIfInBounds_toArray,List.set_cons_zero,List.set_cons_succ,List.getElem_toArray,List.getElem_cons_succ,List.getElem_cons_zero]);exact rfl):K' a w:=by
 subst ea
 exact hK'.out _ _ hS (λ_=>k)
theorem kL {K':Act->aj->Prop} (hK':Shut (∀a w,(true=false->S w)->cQ P md ops Q S l fuel listed a w->K' a w))
  (k:cQ P md ops Q S l fuel listed a' w)
  (ea:a=a':=by(try simp only[Act.put,List.setIfInBounds_toArray,List.set_cons_zero,List.set_cons_succ,List.getElem_toArray,List.getElem_cons_succ,List.getElem_cons_zero]);exact rfl):K' a w:=by
 subst ea
 exact hK'.out _ _ (λh=>Bool.noConfusion (show true=false from h)) k
theorem nI (k:Q .normal a' w) (hr:Region.ready md ops listed=[]:=by kernel_rfl)
  (ea:a=a':=by(try simp only[Act.put,List.setIfInBounds_toArray,List.set_cons_zero,List.set_cons_succ,List.getElem_toArray,List.getElem_cons_succ,List.getElem_cons_zero]);exact rfl):wpAnyH P md ops Q S fuel listed a w:=by
 subst ea
 exact wpAnyH_done hr k _
theorem eL (k:Q .normal a' w) (hr:Region.ready md ops listed=[]:=by kernel_rfl)
  (ea:a=a':=by(try simp only[Act.put,List.setIfInBounds_toArray,List.set_cons_zero,List.set_cons_succ,List.getElem_toArray,List.getElem_cons_succ,List.getElem_cons_zero]);exact rfl):wpAnyH P md ops (NoPanic Q) S fuel listed a w:=by
 subst ea
 exact wpAnyH_done hr (NoPanic.normal k) _
end
end
section
open Tryz
open Go.RowKit
theorem aK (w:aj) (o:Obj):(w.alloc o).heap[w.heap.size]?=ai o:=by
 show(w.heap.push o)[w.heap.size]?=ai o
 exact Array.getElem?_push_size
end
section
open Tryz
open Go.RowKit
theorem bW (w:aj) (t:aT) (c:Array aw):∃W,bj (w.alloc (.cells c t)=W)/\am W w.heap.size t c/\ap w.heap.size w W:=
 ⟨_,show _=_ from rfl,aK w (.cells c t),aP (au _ _) _⟩
theorem o6 (w:aj) (t:aT) (c:Array aw) (t2:aT) (c2:Array aw):∃W,bj ((w.alloc (.cells c t)).alloc (.cells c2 t2)=W)/\am W w.heap.size t c/\am W (w.heap.size+1) t2 c2/\ap w.heap.size w W:=by
 obtain⟨W,h,hC,hB⟩:=bW w t c
 obtain⟨W',h',hC',hB'⟩:=bW W t2 c2
 have e:W.heap.size=w.heap.size+1:=by rw[<-h.out];simp only[bg]
 rw[e]at hC'
 exact⟨W',by unfold bj;rw[h.out,h'.out],hC.below hB',hC',ak hB hB'⟩
theorem vK (w:aj) (t:aT) (c:Array aw) (t2:aT) (c2:Array aw) (t3:aT) (c3:Array aw):∃W,bj (((w.alloc (.cells c t)).alloc (.cells c2 t2)).alloc (.cells c3 t3)=W)/\am W w.heap.size t c/\am W (w.heap.size+1) t2 c2/\am W (w.heap.size+2) t3 c3/\ap w.heap.size w W:=by
 obtain⟨W,h,hC,hC2,hB⟩:=o6 w t c t2 c2
 obtain⟨W',h',hC',hB'⟩:=bW W t3 c3
 have e:W.heap.size=w.heap.size+2:=by rw[<-h.out];simp only[bg]
 rw[e]at hC'
 exact⟨W',by unfold bj;rw[h.out,h'.out],hC.below hB',hC2.below hB',hC',ak hB hB'⟩
theorem oZ (w:aj) (t:aT) (c:Array aw) (t2:aT) (c2:Array aw) (t3:aT) (c3:Array aw) (t4:aT) (c4:Array aw):∃W,bj ((((w.alloc (.cells c t)).alloc (.cells c2 t2)).alloc (.cells c3 t3)).alloc (.cells c4 t4)=W)/\am W w.heap.size t c/\am W (w.heap.size+1) t2 c2/\am W (w.heap.size+2) t3 c3/\am W (w.heap.size+3) t4 c4/\ap w.heap.size w W:=by
 obtain⟨W,h,hC,hC2,hC3,hB⟩:=vK w t c t2 c2 t3 c3
 obtain⟨W',h',hC',hB'⟩:=bW W t4 c4
 have e:W.heap.size=w.heap.size+3:=by rw[<-h.out];simp only[bg]
 rw[e]at hC'
 exact⟨W',by unfold bj;rw[h.out,h'.out],hC.below hB',hC2.below hB',hC3.below hB',hC',ak hB hB'⟩
theorem eB (w:aj) (t0:aT) (c0:Array aw):∃W x,bj (w.alloc (.cells c0 t0)=W/\w.heap.size=x)/\am W x t0 c0/\ap w.heap.size w W:=by
 obtain⟨W,h,k⟩:=bW w t0 c0
 exact⟨W,_,⟨h.out,rfl⟩,k⟩
theorem pf (w:aj) (t0:aT) (c0:Array aw) (t1:aT) (c1:Array aw):∃W x,bj ((w.alloc (.cells c0 t0)).alloc (.cells c1 t1)=W/\w.heap.size=x)/\am W x t0 c0/\am W (x+1) t1 c1/\ap w.heap.size w W:=by
 obtain⟨W,h,k⟩:=o6 w t0 c0 t1 c1
 exact⟨W,_,⟨h.out,rfl⟩,k⟩
theorem bx3 (w:aj) (t0:aT) (c0:Array aw) (t1:aT) (c1:Array aw) (t2:aT) (c2:Array aw):∃W x,bj (((w.alloc (.cells c0 t0)).alloc (.cells c1 t1)).alloc (.cells c2 t2)=W/\w.heap.size=x)/\am W x t0 c0/\am W (x+1) t1 c1/\am W (x+2) t2 c2/\ap w.heap.size w W:=by
 obtain⟨W,h,k⟩:=vK w t0 c0 t1 c1 t2 c2
 exact⟨W,_,⟨h.out,rfl⟩,k⟩
theorem bx4 (w:aj) (t0:aT) (c0:Array aw) (t1:aT) (c1:Array aw) (t2:aT) (c2:Array aw) (t3:aT) (c3:Array aw):∃W x,bj ((((w.alloc (.cells c0 t0)).alloc (.cells c1 t1)).alloc (.cells c2 t2)).alloc (.cells c3 t3)=W/\w.heap.size=x)/\am W x t0 c0/\am W (x+1) t1 c1/\am W (x+2) t2 c2/\am W (x+3) t3 c3/\ap w.heap.size w W:=by
 obtain⟨W,h,k⟩:=oZ w t0 c0 t1 c1 t2 c2 t3 c3
 exact⟨W,_,⟨h.out,rfl⟩,k⟩
theorem qX (w:aj) (t:aT) {c d:Array aw} (h:bj (d=c)):∃W,bj (w.alloc (.cells c t)=W)/\am W w.heap.size t d/\ap w.heap.size w W:=by
 obtain⟨W,h1,h2,h3⟩:=bW w t c
 exact⟨W,h1,h.out▸h2,h3⟩
theorem bY (x:Nat):∃y,y=x:=⟨x,rfl⟩
theorem dR {α:Type} (x:α):∃r,bj (r=x):=⟨x,show _=_ from rfl⟩
theorem kp {w w':aj} {p:Addr} {v:aw} (h:w.cell? p=ai v) (hb:ap w.heap.size w w'):w'.cell? p=ai v:=(hb.cell (p:=p) (aG w p h)).trans h
theorem tN {p0 p1:Prop} (h0:p0) (h1:p1):p0/\p1:=⟨h0,h1⟩
theorem uE {p0 p1 p2:Prop} (h0:p0) (h1:p1) (h2:p2):p0/\p1/\p2:=⟨h0,h1,h2⟩
theorem tD {p0 p1 p2 p3:Prop} (h0:p0) (h1:p1) (h2:p2) (h3:p3):p0/\p1/\p2/\p3:=⟨h0,h1,h2,h3⟩
theorem an5 {p0 p1 p2 p3 p4:Prop} (h0:p0) (h1:p1) (h2:p2) (h3:p3) (h4:p4):p0/\p1/\p2/\p3/\p4:=⟨h0,h1,h2,h3,h4⟩
theorem an6 {p0 p1 p2 p3 p4 p5:Prop} (h0:p0) (h1:p1) (h2:p2) (h3:p3) (h4:p4) (h5:p5):p0/\p1/\p2/\p3/\p4/\p5:=⟨h0,h1,h2,h3,h4,h5⟩
theorem an7 {p0 p1 p2 p3 p4 p5 p6:Prop} (h0:p0) (h1:p1) (h2:p2) (h3:p3) (h4:p4) (h5:p5) (h6:p6):p0/\p1/\p2/\p3/\p4/\p5/\p6:=⟨h0,h1,h2,h3,h4,h5,h6⟩
theorem an8 {p0 p1 p2 p3 p4 p5 p6 p7:Prop} (h0:p0) (h1:p1) (h2:p2) (h3:p3) (h4:p4) (h5:p5) (h6:p6) (h7:p7):p0/\p1/\p2/\p3/\p4/\p5/\p6/\p7:=⟨h0,h1,h2,h3,h4,h5,h6,h7⟩
theorem an9 {p0 p1 p2 p3 p4 p5 p6 p7 p8:Prop} (h0:p0) (h1:p1) (h2:p2) (h3:p3) (h4:p4) (h5:p5) (h6:p6) (h7:p7) (h8:p8):p0/\p1/\p2/\p3/\p4/\p5/\p6/\p7/\p8:=⟨h0,h1,h2,h3,h4,h5,h6,h7,h8⟩
theorem an10 {p0 p1 p2 p3 p4 p5 p6 p7 p8 p9:Prop} (h0:p0) (h1:p1) (h2:p2) (h3:p3) (h4:p4) (h5:p5) (h6:p6) (h7:p7) (h8:p8) (h9:p9):p0/\p1/\p2/\p3/\p4/\p5/\p6/\p7/\p8/\p9:=⟨h0,h1,h2,h3,h4,h5,h6,h7,h8,h9⟩
theorem an11 {p0 p1 p2 p3 p4 p5 p6 p7 p8 p9 p10:Prop} (h0:p0) (h1:p1) (h2:p2) (h3:p3) (h4:p4) (h5:p5) (h6:p6) (h7:p7) (h8:p8) (h9:p9) (h10:p10):p0/\p1/\p2/\p3/\p4/\p5/\p6/\p7/\p8/\p9/\p10:=⟨h0,h1,h2,h3,h4,h5,h6,h7,h8,h9,h10⟩
theorem vL {p0 p1 p2 p3 p4 p5 p6 p7 p8 p9 p10 p11:Prop} (h0:p0) (h1:p1) (h2:p2) (h3:p3) (h4:p4) (h5:p5) (h6:p6) (h7:p7) (h8:p8) (h9:p9) (h10:p10) (h11:p11):p0/\p1/\p2/\p3/\p4/\p5/\p6/\p7/\p8/\p9/\p10/\p11:=⟨h0,h1,h2,h3,h4,h5,h6,h7,h8,h9,h10,h11⟩
theorem an13 {p0 p1 p2 p3 p4 p5 p6 p7 p8 p9 p10 p11 p12:Prop} (h0:p0) (h1:p1) (h2:p2) (h3:p3) (h4:p4) (h5:p5) (h6:p6) (h7:p7) (h8:p8) (h9:p9) (h10:p10) (h11:p11) (h12:p12):p0/\p1/\p2/\p3/\p4/\p5/\p6/\p7/\p8/\p9/\p10/\p11/\p12:=⟨h0,h1,h2,h3,h4,h5,h6,h7,h8,h9,h10,h11,h12⟩
theorem an14 {p0 p1 p2 p3 p4 p5 p6 p7 p8 p9 p10 p11 p12 p13:Prop} (h0:p0) (h1:p1) (h2:p2) (h3:p3) (h4:p4) (h5:p5) (h6:p6) (h7:p7) (h8:p8) (h9:p9) (h10:p10) (h11:p11) (h12:p12) (h13:p13):p0/\p1/\p2/\p3/\p4/\p5/\p6/\p7/\p8/\p9/\p10/\p11/\p12/\p13:=⟨h0,h1,h2,h3,h4,h5,h6,h7,h8,h9,h10,h11,h12,h13⟩
theorem r2 {P:Nat->Prop} (h:∀j,j<2->P j):P 0/\P 1:=⟨h 0 om,h 1 om⟩
theorem r3 {P:Nat->Prop} (h:∀j,j<3->P j):P 0/\P 1/\P 2:=⟨h 0 om,h 1 om,h 2 om⟩
theorem r4 {P:Nat->Prop} (h:∀j,j<4->P j):P 0/\P 1/\P 2/\P 3:=⟨h 0 om,h 1 om,h 2 om,h 3 om⟩
theorem r5 {P:Nat->Prop} (h:∀j,j<5->P j):P 0/\P 1/\P 2/\P 3/\P 4:=⟨h 0 om,h 1 om,h 2 om,h 3 om,h 4 om⟩
theorem r6 {P:Nat->Prop} (h:∀j,j<6->P j):P 0/\P 1/\P 2/\P 3/\P 4/\P 5:=⟨h 0 om,h 1 om,h 2 om,h 3 om,h 4 om,h 5 om⟩
theorem r7 {P:Nat->Prop} (h:∀j,j<7->P j):P 0/\P 1/\P 2/\P 3/\P 4/\P 5/\P 6:=⟨h 0 om,h 1 om,h 2 om,h 3 om,h 4 om,h 5 om,h 6 om⟩
theorem r8 {P:Nat->Prop} (h:∀j,j<8->P j):P 0/\P 1/\P 2/\P 3/\P 4/\P 5/\P 6/\P 7:=⟨h 0 om,h 1 om,h 2 om,h 3 om,h 4 om,h 5 om,h 6 om,h 7 om⟩
theorem r9 {P:Nat->Prop} (h:∀j,j<9->P j):P 0/\P 1/\P 2/\P 3/\P 4/\P 5/\P 6/\P 7/\P 8:=⟨h 0 om,h 1 om,h 2 om,h 3 om,h 4 om,h 5 om,h 6 om,h 7 om,h 8 om⟩
theorem eI {w:aj} {b o i:Nat} {F:Nat->Nat->aw} (h:∀j,j<1->w.cell? ⟨b,o+i*1+j,ag⟩=ai (F i j)):w.cell? ⟨b,o+i,ag⟩=ai (F i 0):=by
 have h:=h 0 om
 rw[Nat.mul_one,bq]at h
 exact h
theorem gG {G:Prop} (h:G:=by go_ret3;refine⟨?_,hB⟩;rw[HS.out];simp[ot,qC, *]):G:=h
theorem eU {G:Prop} (h:G:=by go_ret3;refine⟨?_,hB⟩;rw[HS.out];simp[uR, *]):G:=h
theorem iN {G:Prop} (h:G:=by go_ret3;refine⟨?_,hB⟩;rw[HS.out];simp[ue, *]):G:=h
theorem fT {G:Prop} (h:G:=by go_ret3;refine⟨?_,hB⟩;rw[HS.out];simp[ue, *]):G:=h
theorem eZ {G:Prop} (h:G:=by go_ret3;refine⟨?_,hB⟩;rw[HS.out];simp[uA,rl, *]):G:=h
theorem iF {G:Prop} (h:G:=by go_ret2;refine⟨?_,hB⟩;rw[HS.out];simp[oo, *]):G:=h
theorem gj {G:Prop} (h:G:=by go_ret2;refine⟨?_,hB⟩;rw[HS.out];unfold oo;rw[vP];simp[*]):G:=h
theorem jc {G:Prop} (h:G:=by go_ret2;refine⟨?_,hB⟩;rw[HS.out];simp[eD, *]):G:=h
theorem cw {G:Prop} (h:G:=by repeat(first|with_reducible assumption|with_reducible refine sB ?_|with_reducible apply uO|with_reducible refine uH ?_ (by dsimp only;omega))):G:=h
theorem eo {G:Prop} (h:G:=by repeat(first|with_reducible assumption|with_reducible refine sC ?_|with_reducible refine tR ?_ (by dsimp only;omega)|with_reducible exact au _ _)):G:=h
theorem gg {G:Prop} (h:G:=by go_ret3;refine⟨?_,hB⟩;rw[HS.out];simp[sW, *]):G:=h
theorem gW {G:Prop} (h:G:=by go_ret3;refine⟨?_,hB⟩;rw[HS.out];simp[sW, *]):G:=h
theorem tC {G:Prop} (h:G:=by go_ret2;refine⟨?_,hB⟩;rw[HS.out];simp[tM, *]):G:=h
theorem jz {G:Prop} (h:G:=by go_ret3;refine⟨?_,hB⟩;rw[HS.out];simp[rk,pI, *]):G:=h
theorem bV {P:Program} {Q:Exit->Act->aj->Prop} {ops:Array Oper} {id:Nat} {a:Act} {w wc:aj} (hB:ap wc.heap.size wc w.drew) (k:wpAnyH P .any ops Q (λw'=>ap wc.heap.size wc w') ops.size (Array.replicate ops.size false) a w.drew) (hm:P.follows .mixedOrders=true:=by kernel_rfl):(Code.region id ops true).wp P Q a w:=
 wp_region_held_drew (S:=λw'=>ap wc.heap.size wc w') hm hB (λ_=>k)
theorem bS {w W W':aj} {b0:Nat} {t0:aT} {c0:Array aw} (h0:am W b0 t0 c0) (hB:ap w.heap.size w W) (hb:ap W.heap.size W W'):am W' b0 t0 c0/\ap w.heap.size w W':=⟨h0.below hb,ak hB hb⟩
theorem bM {w W W':aj} {b0:Nat} {t0:aT} {c0:Array aw} {b1:Nat} {t1:aT} {c1:Array aw} (h0:am W b0 t0 c0) (h1:am W b1 t1 c1) (hB:ap w.heap.size w W) (hb:ap W.heap.size W W'):am W' b0 t0 c0/\am W' b1 t1 c1/\ap w.heap.size w W':=⟨h0.below hb,h1.below hb,ak hB hb⟩
theorem oy {w W W':aj} {b0:Nat} {t0:aT} {c0:Array aw} {b1:Nat} {t1:aT} {c1:Array aw} {b2:Nat} {t2:aT} {c2:Array aw} (h0:am W b0 t0 c0) (h1:am W b1 t1 c1) (h2:am W b2 t2 c2) (hB:ap w.heap.size w W) (hb:ap W.heap.size W W'):am W' b0 t0 c0/\am W' b1 t1 c1/\am W' b2 t2 c2/\ap w.heap.size w W':=⟨h0.below hb,h1.below hb,h2.below hb,ak hB hb⟩
theorem jO {w W W':aj} {b0:Nat} {t0:aT} {c0:Array aw} {b1:Nat} {t1:aT} {c1:Array aw} {b2:Nat} {t2:aT} {c2:Array aw} {b3:Nat} {t3:aT} {c3:Array aw} (h0:am W b0 t0 c0) (h1:am W b1 t1 c1) (h2:am W b2 t2 c2) (h3:am W b3 t3 c3) (hB:ap w.heap.size w W) (hb:ap W.heap.size W W'):am W' b0 t0 c0/\am W' b1 t1 c1/\am W' b2 t2 c2/\am W' b3 t3 c3/\ap w.heap.size w W':=⟨h0.below hb,h1.below hb,h2.below hb,h3.below hb,ak hB hb⟩
theorem pR {w W W':aj} {b0:Nat} {t0:aT} {c0:Array aw} {b1:Nat} {t1:aT} {c1:Array aw} {b2:Nat} {t2:aT} {c2:Array aw} {b3:Nat} {t3:aT} {c3:Array aw} {b4:Nat} {t4:aT} {c4:Array aw} (h0:am W b0 t0 c0) (h1:am W b1 t1 c1) (h2:am W b2 t2 c2) (h3:am W b3 t3 c3) (h4:am W b4 t4 c4) (hB:ap w.heap.size w W) (hb:ap W.heap.size W W'):am W' b0 t0 c0/\am W' b1 t1 c1/\am W' b2 t2 c2/\am W' b3 t3 c3/\am W' b4 t4 c4/\ap w.heap.size w W':=⟨h0.below hb,h1.below hb,h2.below hb,h3.below hb,h4.below hb,ak hB hb⟩
theorem T0 {G:Prop} (h:G:=by
  have hl:keyOf prog 9 (.string b0)=ai (.string b0.data.toList):=Go.WideMaps.keyOf_string_mk underlying9 (by unfold cF;omega)
  have hlook:=hM.look dY underlying161 underlying4 (jw _) hl (λk=>ej (N k) b0) (λi _=>by rw[HKi.out i,lw];simp)
  cases ha:bI (λk=>ej (N k) b0) j with
  |true=>
   rw[ha]at hlook
   exact nu
  |false=>
   rw[ha]at hlook
   go_wp2_with fail
   refine aZ (HHj.out _ hB) ?_
   intro w1 hb
   replace hD:=hD.below hb
   replace hM:=hM.below hb
   replace hB:=ak hB hb
   clear hb
   by_cases hE:E0=0
   rotate_left
   ·have hEn:(E0 != 0)=true:=by simpa using hE
    exact nu
   subst hE
   have hE0:((0:Int) != 0)=false:=rfl
   obtain⟨w3,hput,hM3,hgr⟩:=hM.put dY underlying161 underlying4 (by unfold cF;omega) hl hKj
   replace hB:=hB.grown hgr hB.size (λj e=>by cases e;exact hmb)
   have HJ2:bj (aB (dy N E) n 0=aB (dy N E) (n - (j+1)) (j+1)):=by
    exact gM
   clear HF HQ ha hl
   go_wp2_with fail
   go_roundw
   case rel=>exact⟨j+1,by omega,by go_num,HJ2,hM3,hB⟩
   case measure=>simp[aV];omega):G:=h
theorem T1 {G:Prop} (h:G:=by
  obtain⟨ra,rc,rfl,hrc,hx⟩:=id hRr
  have HRr:=af hRr
  have HF:=af hF
  clear hRr hF
  go_enter func85,ntmps85
  go_wp2_with fail
  go_loopw [8] (λi wr=>∃j:Nat,j<=n/\i=M U j/\ap w.heap.size w wr/\bj (cH p n 0=cH p (n - j) j)) (λi _=>n - (aV i).toNat)
  case atStart=>exact⟨0,aF _,rfl,au _ _,rfl⟩
  case round=>
   obtain⟨j,hj,rfl,hB,HI⟩:=hrel
   by_cases hlt:j<n
   rotate_left
   ·exact mv
   have HC:=af (λW (h:ap w.heap.size w W)=>HF.out j W hlt h)
   have HS:=af (dj p hlt)
   obtain⟨b,off,rfl,hb,hc⟩:=(HRr.out.below hB).elem hlt
   have e0:wr.cell? ⟨b,off+j,ag⟩=ai (M U (R j 0)):=eI hc
   generalize R j 0=b0 at *
   generalize p j=pj at *
   have i2:(j:Int)<(n:Int):=om
   exact uW):G:=h
theorem T2 {G:Prop} (h:G:=by
  have tt:=aH hL
  have m0:=hL.frozen 0
  have m1:=hL.frozen 1
  have m2:=hL.frozen 2
  have m3:=hL.frozen 3
  have m4:=hL.frozen 4
  have m5:=hL.frozen 5
  go_wp2_with fail
  have hL9:=dQ hL (M U S.now) (T (ai ⟨bb,bo,ag⟩) S.zn c1) (T (ai ⟨hb9,ho,ag⟩) S.hn c2) (T a3 S.sn c3) (M U S.siren) (aA false)
  have hB9:=dO hB (show w.heap.size<=tb by omega) (M U S.now) (T (ai ⟨bb,bo,ag⟩) S.zn c1) (T (ai ⟨hb9,ho,ag⟩) S.hn c2) (T a3 S.sn c3) (M U S.siren) (aA false)
  generalize((((((w1.setCell ⟨tb,0,ag⟩ (M U S.now)).setCell ⟨tb,1,ag⟩ (T (ai ⟨bb,bo,ag⟩) S.zn c1)).setCell ⟨tb,2,ag⟩ (T (ai ⟨hb9,ho,ag⟩) S.hn c2)).setCell ⟨tb,3,ag⟩ (T a3 S.sn c3)).setCell ⟨tb,4,ag⟩ (M U S.siren)).setCell ⟨tb,5,ag⟩ (aA false))=w9 at *
  clear tt m0 m1 m2 m3 m4 m5
  have tt:=aH hL9
  refine bG (P:=prog) (fn:=f443) (v:= .tuple #[aN #[M U S.now,T (ai ⟨bb,bo,ag⟩) S.zn c1,T (ai ⟨hb9,ho,ag⟩) S.hn c2,T a3 S.sn c3,M U S.siren,aA false],M U 171]) ?_ rfl ?_
  ·simp[results,results443,go_sem, *]
  exact⟨_,_,_,_,_,_,_,_,_,_,_,_,171,rfl,Or.inr om,hB9⟩):G:=h
theorem T3 {G:Prop} (h:G:=by
  go_wp2_with fail
  go_loopw [8] (λi wr=>∃j:Nat,j<=n/\i=M U j/\ap w.heap.size w wr/\bj (cH p n 0=cH p (n - j) j)) (λi _=>n - (aV i).toNat)
  case atStart=>exact⟨0,aF _,rfl,au _ _,rfl⟩
  case round=>
   obtain⟨j,hj,rfl,hB,HI⟩:=hrel
   by_cases hlt:j<n
   rotate_left
   ·exact mv
   have HC:=af (λW (h:ap w.heap.size w W)=>HF.out j W hlt h)
   have HS:=af (dj p hlt)
   obtain⟨bb,bo,rfl,bl,hc⟩:=(HRr.out.below hB).elem hlt
   have e0:wr.cell? ⟨bb,bo+j,ag⟩=ai (F j 0):=eI hc
   generalize F j 0=b0 at *
   exact T20):G:=h
theorem T4 {G:Prop} (h:G:=by
  go_wp2_with fail
  refine bm (cI _ _ _ _) ?_
  rintro(_|_) g0
  rotate_left
  ·exact ou
  go_wp2_with fail
  refine bm (cI _ _ _ _) ?_
  rintro(_|_) g1
  rotate_left
  ·exact ou
  go_wp2_with fail
  refine bm (cI _ _ _ _) ?_
  rintro(_|_) g2
  rotate_left
  ·exact ou
  go_wp2_with fail
  refine bm (cI _ _ _ _) ?_
  rintro(_|_) g3
  rotate_left
  ·exact ou
  go_wp2_with fail
  refine bm (hU _ _) ?_
  rintro(_|_) g4
  rotate_left
  ·exact ou
  go_wp2_with fail
  refine bm (hU _ _) ?_
  rintro(_|_) g5
  ·exact ou
  exact ou):G:=h
theorem T5 {G:Prop} (h:G:=by
  obtain⟨W0,HW0,hC,hB⟩:=bW w 34 #[M U xl,M U xh,M U yl,M U yh]
  go_enter func106,ntmps106
  go_upto_region 1 with fail
  rw[HW0.out]
  obtain⟨xb,hxe⟩:=bY w.heap.size
  rw[<-hxe]at hC⊢
  clear hxe HW0
  have xx:=eW hC
  go_wp2_with fail
  refine aR (dA _ _) ?_
  rintro(_|_) g0
  rotate_left
  ·exact qO
  go_wp2_with fail
  refine aR (dA _ _) ?_
  rintro(_|_) g1
  rotate_left
  ·exact qO
  go_wp2_with fail
  refine aR (dA _ _) ?_
  rintro(_|_) g2
  rotate_left
  ·exact qO
  go_wp2_with fail
  refine aR (dA _ _) ?_
  rintro(_|_) g3
  ·exact qO
  exact qO):G:=h
theorem T6 {G:Prop} (h:G:=by
  go_wp2_with fail
  refine aR (cR _ _ _ _) ?_
  rintro(_|_) g1
  rotate_left
  ·exact di
  go_wp2_with fail
  refine aR (cR _ _ _ _) ?_
  rintro(_|_) g2
  rotate_left
  ·exact di
  go_wp2_with fail
  refine aR (cR _ _ _ _) ?_
  rintro(_|_) g3
  rotate_left
  ·exact di
  go_wp2_with fail
  refine aR (gX _ _) ?_
  rintro(_|_) g4
  rotate_left
  ·exact di
  go_wp2_with fail
  refine aR (gX _ _) ?_
  rintro(_|_) g5
  ·exact di
  exact di):G:=h
theorem T7 {G:Prop} (h:G:=by
  go_upto_region 1 with fail
  rw[HW0.out]
  rw[<-hxe]
  clear hxe
  clear HW0
  refine bV hBd ?_
  refine br 0 hBd ?_
  refine br 1 hBd ?_
  refine br 3 hBd ?_
  refine br 4 hBd ?_
  refine br 5 hBd ?_
  refine br 6 hBd ?_
  refine br 7 hBd ?_
  refine cL 2 (λK' hK'=>?_)
  refine aZ (HX.out _ hBd) ?_
  intro w1 hb
  have hB1:=ak hBd hb
  refine bO hK' hB1 ?_
  clear hK' K'
  refine cL 8 (λK' hK'=>?_)
  refine aZ (HG.out _ hB1) ?_
  intro w2 hb
  have hB2:=ak hB1 hb
  refine bO hK' hB2 ?_
  clear hK' K'
  refine br 9 hB2 ?_
  refine br 10 hB2 ?_
  refine wpAnyH_done kr ?_ _
  (try simp only[Exit.then])
  (try refine‹∀(a:Act) (w:aj),bi prog _ _ a w->_› _ _ ?_)
  go_wp2_with fail
  go_ret
  exact⟨rfl,ak hB hB2⟩):G:=h
theorem T8 {G:Prop} (h:G:=by
  have xx:=aL hC
  obtain⟨nn,hnn⟩:∃nn,nn=N m:=⟨_,rfl⟩
  simp only[<-hnn]at HM2 HH e0
  clear hnn
  go_upto_region 7 with fail
  go_quiet (fail)
  have hb:=aM (au wr.heap.size wr) nq
  try replace hC:=hC.below hb
  try replace hD:=hD.below hb
  try replace hM:=hM.below hb
  replace hB:=ak hB hb
  clear hb
  generalize wr.drewN nq=w2 at *
  clear e0
  cases hg:(nn.toList==b0.toList)
  rotate_left
  ·have hA:=HH.out hg
   clear HM2 HH
   exact di
  have hM1:=HM2.out hg
  exact T68):G:=h
theorem T9 {G:Prop} (h:G:=by
  go_wp2_with fail
  refine bH (ii [xl,xh,yl,yh] _ 3 (by simp)) ?_
  rintro(_|_) w1 g1 hb<;>obtain⟨hC,hC2,hC3,hB⟩:=oy hC hC2 hC3 hB hb
  rotate_left
  ·simp only[List.any_cons,List.any_nil,Bool.or_false]at g1
   exact uS
  simp only[List.any_cons,List.any_nil,Bool.or_false]at g1
  have yy:=bA hC2
  have zz:=bA hC3
  exact uS):G:=h
theorem T10 {G:Prop} (h:G:=by
  have yy:=bZ hD
  generalize dm D.pd 0 b1 b2 b3 b4=ae at *
  by_cases hae:ae=0
  rotate_left
  ·have haeb:(ae != 0)=true:=by simpa using hae
   have hJ:=HF.out
   rw[HQ.out]at hJ
   simp[hae]at hJ
   exact wz
  subst hae
  have HJ2:bj (aB (eV D i) an 0=aB (eV D i) (an - (j+1)) (j+1)):=by
   exact pZ
  clear HF HQ
  go_wp2_with fail
  go_roundw
  case rel=>exact⟨j+1,by omega,by go_num,HJ2,hC,hD,hB⟩
  case measure=>simp[aV];omega):G:=h
theorem T11 {G:Prop} (h:G:=by
  generalize iw d0 d1 d2=q at *
  by_cases hq:q=0
  rotate_left
  ·have hqb:(q != 0)=true:=by simpa using hq
   have hJ:=HF.out
   rw[HQ.out]at hJ
   simp[*]at hJ
   clear HF HQ
   go_wp2_with fail
   go_ret3
   refine⟨?_,hB⟩
   rw[HS.out]
   unfold pL
   simp[*]
  subst hq
  have HJ2:bj (aB (ir D) D.dn 0=aB (ir D) (D.dn - (j+1)) (j+1)):=by
   exact pZ
  exact qG):G:=h
theorem T12 {G:Prop} (h:G:=by
  go_upto_region 11 with fail
  refine lq kr hL hD hC2 hM hT hKj HQj0.out HQj1.out HQj2.out wa wb wd (by unfold cF;omega) hne (fI hL hM) (eY hL hT) (fI hD hM) (eY hD hT) (fI hC2 hM) (eY hC2 hT) h1 h2 ?_
  intro u90 u91 u92 u93 u94 u95 u96 u97 u98 u99 u100 u101 u102 u103 u104 u105 w3 hb3 hM3 hT3 hL3
  go_wp2_with fail
  go_ret
  exact⟨bJ (by rw[HQ2.out];simp[*]),(hB.mono hbw).trans hb3,λ_=>⟨hM3,hT3,hL3⟩⟩):G:=h
theorem T13 {G:Prop} (h:G:=by
  refine bO hK' hBd ?_
  clear hK' K'
  refine br 12 hBd ?_
  refine br 13 hBd ?_
  refine wpAnyH_done kr ?_ _
  (try simp only[Exit.then])
  (try refine‹∀(a:Act) (w:aj),bi prog _ _ a w->_› _ _ ?_)
  replace hC:=hC.drew
  replace hC2:=hC2.drew
  replace hB:=hB.drew
  clear HR hBd
  generalize wr.drew=w9 at *
  have xx:=aJ hC
  have yy:=aH hC2
  go_wp2_with fail
  go_roundw
  case rel=>exact⟨j+1,by omega,by go_num,rfl,hC,hC2,hB⟩
  case measure=>simp[aV];omega):G:=h
theorem T14 {G:Prop} (h:G:=by
  generalize p j=pj at *
  have i2:(j:Int)<(n:Int):=om
  clear hc
  exact uW):G:=h
theorem T15 {G:Prop} (h:G:=by
  have HST:=af hst
  clear hst
  go_enter func512,ntmps512
  go_upto_region 1 with fail
  rw[HW0.out]
  obtain⟨xb,hxe⟩:=bY w.heap.size
  rw[<-hxe]at hC⊢
  clear hxe HW0
  obtain⟨x0,x1,x2,x3,x4⟩:=aL hC
  have x12:=(bK HO.out.at).2.2.2.2.2.2.2.2.2.2.2.2
  rw[HST.out]at x12
  have f12:=HO.out.c.frozen 12
  go_wp2_with fail
  refine dU ?_
  refine⟨rfl,?_⟩
  rw[HS.out,fl,eN (by rw[HON.out,HST.out];rfl)]
  exact⟨rfl,HO.out.base⟩):G:=h
theorem T16 {G:Prop} (h:G:=by
  by_cases k2:b3<b2
  ·exact pY
  have k2d:decide (b3<b2)=false:=decide_eq_false om
  have HJ2:bj (aB (kw L) n 0=aB (kw L) (n - (j+1)) (j+1)):=by
   exact gM
  exact qG):G:=h
theorem T17 {G:Prop} (h:G:=by
  have k3d:decide (b3<b2)=true:=decide_eq_true kd
  go_wp2_with fail
  refine aR (cO _ _ _ _) ?_
  rintro(_|_) g0
  rotate_left
  ·exact gY
  go_wp2_with fail
  refine aR (cO _ _ _ _) ?_
  rintro(_|_) g1
  ·exact gY
  exact gY):G:=h
theorem T18 {G:Prop} (h:G:=by
  rw[<-hcr]
  have HCR:=af hcr
  clear hcr
  by_cases hrm:rm<cr
  ·exact sh 175
  cases pr
  ·exact sh 0
  go_wp2_with fail
  refine aZ (HM2.out _ _ (au _ _)) ?_
  intro w6 hb
  obtain⟨hC,hC2,hC3,hD,hL,hB⟩:=pR hC hC2 hC3 hD hL hB hb
  have xx:=aJ hC
  have yy:=aH hC2
  have vv:=aL hC3
  rw[<-HCR.out]
  by_cases h1:cr=1
  ·subst h1
   exact sh 176
  have h1b:(cr==1)=false:=by simpa using h1
  exact sh 0):G:=h
theorem T19 {G:Prop} (h:G:=by
  go_wp2_with fail
  refine ld (HKe.out _ hB) ?_
  rintro(_|_) w2 - hb
  ·obtain⟨hC,hC2,hB⟩:=bM hC hC2 hB hb
   clear xx
   have xx:=aJ hC
   clear yy
   have yy:=aH hC2
   go_wp2_with fail
   go_ret
   exact⟨174,rfl,Or.inr om,hB⟩
  obtain⟨hC,hC2,hB⟩:=bM hC hC2 hB hb
  clear xx
  have xx:=aJ hC
  clear yy
  have yy:=aH hC2
  go_wp2_with fail
  go_ret
  exact⟨0,rfl,Or.inl rfl,hB⟩):G:=h
theorem T20 {G:Prop} (h:G:=by
  generalize p j=pj at *
  have i2:(j:Int)<(n:Int):=om
  go_wp2_with fail
  refine aZ (HC.out _ hB) ?_
  intro w2 hb
  replace hB:=ak hB hb
  cases pj
  rotate_left
  ·go_wp2_with fail
   go_ret
   exact⟨bJ (by rw[HI.out,HS.out];rfl),hB⟩
  go_wp2_with fail
  go_roundw
  case rel=>exact⟨j+1,by omega,by go_num,hB,by unfold bj;rw[HI.out,HS.out];rfl⟩
  case measure=>simp[aV];omega):G:=h
theorem T21 {G:Prop} (h:G:=by
  rintro(_|_) g19
  rotate_left
  ·exact bU
  exact qL):G:=h
theorem T22 {G:Prop} (h:G:=by
  rintro(_|_) g20
  rotate_left
  ·exact bU
  exact qL):G:=h
theorem T23 {G:Prop} (h:G:=by
  rintro(_|_) g21
  rotate_left
  ·exact bU
  exact qL):G:=h
theorem T24 {G:Prop} (h:G:=by
  rintro(_|_) g22
  rotate_left
  ·exact bU
  exact qL):G:=h
theorem T25 {G:Prop} (h:G:=by
  have hB2:=ak hB1 hb
  refine bO hK' hB2 ?_
  clear hK' K'
  refine br 7 hB2 ?_
  refine br 8 hB2 ?_
  refine wpAnyH_done kr ?_ _
  (try simp only[Exit.then])
  (try refine‹∀(a:Act) (w:aj),bi prog _ _ a w->_› _ _ ?_)
  go_wp2_with fail
  go_ret
  exact⟨bJ (by rw[HS.out];unfold eR;rw[HNE.out];simp[*]),ak hB hB2⟩):G:=h
theorem T26 {G:Prop} (h:G:=by
  rotate_left
  ·exact bU
  exact qL):G:=h
theorem T27 {G:Prop} (h:G:=by
  rintro(_|_) w3 g2 hb
  ·exact wD
  exact wD):G:=h
theorem T28 {G:Prop} (h:G:=by
  cases k3:(b0==b)
  ·exact wM
  cases k4:(b1==a)
  rotate_left
  ·go_wp2_with fail
   go_ret
   exact⟨true,rfl,trivial,hB⟩
  exact wM):G:=h
theorem T29 {G:Prop} (h:G:=by
  have hk:=dp p n
  have HK:=af hk
  obtain⟨ra,rc,rfl,hrc,hx⟩:=id hRr
  clear hk hRr hF hx
  go_enter func59,ntmps59
  exact T53):G:=h
theorem T30 {G:Prop} (h:G:=by
  rintro(_|_) g10
  rotate_left
  ·exact bU
  by_cases hww:wth=who
  ·subst hww
   exact bU
  exact bU):G:=h
theorem uU {G:Prop} (h:G:=by
  go_upto_region 16 with fail
  go_quiet (fail)
  have hb:=aM (au wr.heap.size wr) nq
  try replace hC:=hC.below hb
  try replace hC2:=hC2.below hb
  try replace hD:=hD.below hb
  try replace hM:=hM.below hb
  replace hB:=ak hB hb
  clear hb
  go_wp2_with fail
  go_ret
  exact⟨bJ (by rw[HQ2.out];simp[*]),hB⟩):G:=h
theorem T32 {G:Prop} (h:G:=by
  go_enter func77,ntmps77
  go_wp2_with fail
  go_ret
  exact⟨bt (by unfold cM;rw[Bool.eq_iff_iff];simp;omega),(by repeat(first|exact au _ _|assumption|refine aP ?_ _|refine ak ?_ (by assumption)|refine ap.drew ?_|refine aM ?_ _|refine aS ?_ (by simp<;>omega) _))⟩):G:=h
theorem T33 {G:Prop} (h:G:=by
  rotate_left
  ·exact bU
  by_cases hww:wth=who
  ·subst hww
   exact bU
  exact bU):G:=h
theorem T34 {G:Prop} (h:G:=by
  have k2d:decide (2000000000<b0)=false:=decide_eq_false om
  go_wp2_with fail
  refine bm (dP _ _ _ _) ?_
  rintro(_|_) g
  ·simp at g
   exact di
  simp at g
  exact di):G:=h
theorem T35 {G:Prop} (h:G:=by
  have HE9:=HJ.out
  obtain rfl:j=an:=om
  replace HE9:=HE9.trans (bh (eV D i) j)
  clear HJ
  have hjj:¬(j:Int)<(j:Int):=om
  have xx:=aX hC
  have yy:=bZ hD
  go_wp2_with fail
  go_ret
  exact⟨bJ (by rw[HS.out,HE.out,HE2.out,HCA.out];simp[*]),hB⟩):G:=h
theorem T36 {G:Prop} (h:G:=by
  have HJ2:bj (aB (nD S) n 0=aB (nD S) (n - (k+1+1)) (k+1+1)):=by
   exact gM
  clear HF HQ hG
  exact rN):G:=h
theorem T37 {G:Prop} (h:G:=by
  have HJ2:bj (aB (m6 D) D.pn 0=aB (m6 D) (D.pn - (k+1+1)) (k+1+1)):=by
   have h9:=HQ.out
   simp[g1,hu]at h9
   unfold bj;rw[HF.out,h9]
  clear HF HQ
  exact rN):G:=h
theorem T38 {G:Prop} (h:G:=by
  rw[k1b]at hG
  go_quiet (fail)
  have hb:=aM (au w1.heap.size w1) nq
  obtain⟨hC,hD,hB⟩:=bM hC hD hB hb
  generalize w1.drewN nq=w2 at *
  clear d0 d1
  obtain⟨d0,d1⟩:=bA hD
  exact di):G:=h
theorem T39 {G:Prop} (h:G:=by
  go_wp2_with fail
  go_ret
  exact⟨bt (by unfold cP;rw[h];rfl),(by repeat(first|exact au _ _|assumption|refine aP ?_ _|refine ak ?_ (by assumption)|refine ap.drew ?_|refine aM ?_ _|refine aS ?_ (by simp<;>omega) _))⟩):G:=h
theorem T40 {G:Prop} (h:G:=by
  have HJ2:bj (aB (nD S) n 0=aB (nD S) (n - (0+1)) (0+1)):=by
   exact gM
  clear HF HQ hG
  exact qf):G:=h
theorem T41 {G:Prop} (h:G:=by
  rw[k1b]at hG
  have hJ:=HF.out
  simp[*]at hJ
  go_quiet (fail)
  have hb:=aM (au w1.heap.size w1) nq
  obtain⟨hC,hD,hB⟩:=bM hC hD hB hb
  generalize w1.drewN nq=w2 at *
  clear d0 d1
  obtain⟨d0,d1⟩:=bA hD
  go_wp2_with fail
  exact gg):G:=h
theorem T42 {G:Prop} (h:G:=by
  have HN:bj (dq s.data.toList=false):=show _=_ from by unfold dq;rw[Bool.and_eq_false_iff,Bool.and_eq_false_iff];simp only[decide_eq_false_iff_not,e0];omega
  go_enter func65,ntmps65
  go_wp2_with fail
  go_ret
  exact⟨bt HN.out.symm,rfl⟩):G:=h
theorem T43 {G:Prop} (h:G:=by
  have hz:=HQ.out
  simp[*]at hz
  have HJ2:bj (aB D.dF D.dn 0=aB D.dF (D.dn - (j+1)) (j+1)):=by unfold bj;rw[HF.out,hz]
  clear HF HQ hz
  exact qV):G:=h
theorem T44 {G:Prop} (h:G:=by
  have hi2:i<m:=by
   rcases Nat.lt_or_ge i m with h4|h4
   ·exact h4
   exact absurd (by rw[<-hKm];congr;omega) e
  obtain⟨l',h4,h5⟩:=h2 i hi2
  refine⟨l',h4,λz=>?_⟩
  rw[atKey_put_other (λe2=>e (by rw[e2]at h4;exact Y.inj h4 hx))]
  exact h5 z):G:=h
theorem T45 {G:Prop} (h:G:=by
  have hJ:=HF.out
  rw[HQ.out]at hJ
  have hJ2:aB D.dF D.dn 0=ai (j,4):=by rw[hJ];simp[*]
  clear HF HQ hJ
  have hf0:=HL.out
  have hf:=Hp1.out
  go_wp2_with fail
  refine ei (k:=3) (at_:=j) (e:=4) cw cw cw eo ?_
  rw[HS.out]
  simp[eF, *]):G:=h
theorem T46 {G:Prop} (h:G:=by
  rw[<-hW0]
  have h:=aK (w.alloc (.cells #[D.vz,D.vd,D.vp,D.vk,D.vq,M U D.panel,M U D.wait] 55)) (.cells #[M U S.now,S.zv,S.hv,S.qv,M U S.siren,aA S.storm] 75)
  simp only[bg]at h
  exact h):G:=h
theorem T47 {G:Prop} (h:G:=by
  obtain⟨hC,hD,hB⟩:=bM hC hD hB hb
  clear xx
  have xx:=aJ hC
  clear dd
  have dd:=ek hD
  exact T89):G:=h
theorem T48 {G:Prop} (h:G:=by
  obtain⟨hC,hD,hB⟩:=bM hC hD hB hb
  clear xx
  have xx:=aX hC
  clear yy
  have yy:=bZ hD
  have hs:iT D i=true:=by rw[HSA.out];simp[*]
  exact jh):G:=h
theorem T49 {G:Prop} (h:G:=by
  obtain⟨hC,hD,hB⟩:=bM hC hD hB hb
  clear xx
  have xx:=aX hC
  clear yy
  have yy:=bZ hD
  have hm:kg D i=true:=by rw[HMA.out];simp[*]
  exact jh):G:=h
theorem uT {G:Prop} (h:G:=by
  go_upto_region 1 with fail
  rw[HW0.out]
  obtain⟨xb,hxe⟩:=bY w.heap.size
  rw[<-hxe]at hC⊢
  clear hxe HW0
  have xx:=aL hC
  exact un):G:=h
theorem T51 {G:Prop} (h:G:=by
  obtain rfl:k=S.sn:=om
  have HOk:=af hOk
  clear hOk
  go_wp2_with fail
  refine bodyPost_end (results_none rfl _ _ _) rfl ?_
  rw[HS.out,fl,bB (by rw[HON.out,HST.out];rfl),HON.out]
  exact⟨rfl,HOk.out⟩):G:=h
theorem T52 {G:Prop} (h:G:=by
  have HM:=af hM1
  have HL:=af ((HL1.out h0).symm)
  clear HM2 HH HL1 HL2 hM1
  go_wp2_with fail
  go_roundw
  case rel=>exact⟨m+1,m,by omega,by go_num,rfl,HM,HL,hC,hC2,hD,hB⟩
  case measure=>simp[aV];omega):G:=h
theorem T53 {G:Prop} (h:G:=by
  go_wp2_with fail
  refine HI.out.mono ?_
  rintro e w2 ⟨rfl,hb2⟩
  go_wp2_with fail
  all_goals(go_ret;refine⟨bt ?_,hb2⟩)
  all_goals(have hq:=HK.out;rw[Bool.eq_iff_iff,<-hq];simp;try omega)):G:=h
theorem T54 {G:Prop} (h:G:=by
  have h0b:(b0 != 0)=true:=by simpa using h0
  have hJ:=HF.out
  rw[HQ.out]at hJ
  simp[h0]at hJ
  exact wz):G:=h
theorem T55 {G:Prop} (h:G:=by
  obtain⟨hC,hC2,hB⟩:=bM hC hC2 hB hb
  have xx:=aJ hC
  have yy:=aH hC2
  exact sY):G:=h
theorem T56 {G:Prop} (h:G:=by
  have hM1:=HM2.out (by rw[HBQ.out];simp[*])
  exact T71):G:=h
theorem T57 {G:Prop} (h:G:=by
  obtain⟨hC,hD,hB⟩:=bM hC hD hB hb
  clear xx
  have xx:=aJ hC
  clear dd
  have dd:=bA hD
  exact ua):G:=h
theorem vn {G:Prop} (h:G:=by
  go_wp2_with fail
  refine aZ HI.out ?_
  intro w2 hb
  go_wp2_with fail
  all_goals(go_ret;refine⟨bt ?_,hb⟩)
  all_goals(have hq:=HK.out;rw[Bool.eq_iff_iff,<-hq];simp;try omega)):G:=h
theorem T59 {G:Prop} (h:G:=by
  rintro(_|_) g2
  ·exact uy
  exact uy):G:=h
theorem T60 {G:Prop} (h:G:=by
  have hJ:=HF.out
  rw[HQ.out]at hJ
  simp[*]at hJ
  clear HF HQ
  go_wp2_with fail
  go_ret2
  refine⟨?_,hB⟩
  rw[HS.out]
  unfold si
  rw[if_neg (by have h:=HLN.out;omega)]
  simp[hJ]):G:=h
theorem T61 {G:Prop} (h:G:=by
  simp only[List.any_cons,List.any_nil,Bool.or_false]at g3
  exact mS):G:=h
theorem T62 {G:Prop} (h:G:=by
  have hqb:(q==0)=false:=by simpa using hq
  have hqn:(q != 0)=true:=by simpa using hq
  have hJ:=HF.out
  rw[HQ.out]at hJ
  simp[*]at hJ
  clear HF HQ HE
  go_wp2_with fail
  exact jc):G:=h
theorem T63 {G:Prop} (h:G:=by
  go_upto_region 1 with fail
  rw[HW0.out]
  obtain⟨xb,hxe⟩:=bY w.heap.size
  rw[<-hxe]at hC⊢
  clear hxe HW0
  have xx:=aH hC
  exact gU):G:=h
theorem T64 {G:Prop} (h:G:=by
  have hqb:(q != 0)=true:=by simpa using hq
  have hJ:=HF.out
  rw[HQ.out]at hJ
  simp[hq]at hJ
  clear HF HQ
  exact js):G:=h
theorem T65 {G:Prop} (h:G:=by
  obtain⟨hC,hC2,hB⟩:=bM hC hC2 hB hb
  have xx:=aJ hC
  have yy:=aL hC2
  exact bU):G:=h
theorem T66 {G:Prop} (h:G:=by
  refine am.below ?_ (aP (au _ _) _)
  exact sQ):G:=h
theorem T67 {G:Prop} (h:G:=by
  go_upto_region 4 with fail
  go_region
  go_wp2_with fail
  go_roundw
  case rel=>exact⟨j+1,by omega,by go_num,eo,cw,HSV⟩
  case measure=>simp[aV];omega):G:=h
theorem T68 {G:Prop} (h:G:=by
  have HM:=af hM1
  clear HM2 HH hM1
  exact uZ):G:=h
theorem vy {G:Prop} (h:G:=by
  have hL:D.long=true:=by unfold bE.long;simp[*]
  go_wp2_with fail
  refine ei (k:=1) (at_:=0) (e:=3) cw cw cw eo ?_
  rw[HS.out]
  simp[eF, *]):G:=h
theorem T70 {G:Prop} (h:G:=by
  have hA3:=HH.out (by rw[HBQ.out];simp[*])
  clear HH HM2
  go_wp2_with fail
  go_ret
  exact⟨bt (by rw[HS.out,HSB.out,HA1.out,HA2.out,hA3];rfl),hB⟩):G:=h
theorem T71 {G:Prop} (h:G:=by
  have HM:=af hM1
  clear HM2 HH hM1
  exact uX):G:=h
theorem T72 {G:Prop} (h:G:=by
  show _=Ending.returned (.tuple #[aN #[M U at_,S2.zv,S2.hv,S2.qv,M U S2.siren,aA S2.storm],M U 0])
  rw[HZ.out,HH.out,HQ.out]):G:=h
theorem T73 {G:Prop} (h:G:=by
  have hJ:=HF.out
  rw[HQ.out]at hJ
  simp[*]at hJ
  clear HF HQ HOW HNN HQE
  exact m7):G:=h
theorem T74 {G:Prop} (h:G:=by
  have hdi:((D.dn:Int) != (D.t.sn:Int))=true:=bne_iff_ne.2 om
  exact uk):G:=h
theorem T75 {G:Prop} (h:G:=by
  have HE:bj (nK n d=2):=by unfold bj nK sq;simp[*]
  clear hix0 hix1
  go_wp2_with fail
  go_ret2
  exact⟨⟨false,by rw[HE.out]<;>rfl⟩,hB⟩):G:=h
theorem T76 {G:Prop} (h:G:=by
  obtain rfl:n=j:=om
  have HE:=af (HJ.out.trans (bh (dy N E) n))
  have hE:=HE.out
  clear HJ HE
  go_wp2_with fail
  exact jc):G:=h
theorem T77 {G:Prop} (h:G:=by
  clear hqk
  go_wp2_with fail
  go_roundw
  case rel=>exact⟨k+1,by omega,by go_num,by rw[E9.out];exact HOk.out⟩
  case measure=>simp[aV];omega):G:=h
theorem T78 {G:Prop} (h:G:=by
  rw[HS.out]
  have hf0:=HL.out
  have hf1:=Hp1.out
  have hf2:=HE.out
  have hf3:=Hp4.out
  have hf4:=Hp5.out
  have hf5:=Hp6.out
  simp[eF,fB, *]):G:=h
theorem T79 {G:Prop} (h:G:=by
  go_quiet (fail)
  go_wp2_with fail
  go_ret
  exact⟨bt (by rw[HS.out,HFB.out,g1h.out,g2h.out];simp[*]),aM (aM hB _) _⟩):G:=h
theorem T80 {G:Prop} (h:G:=by
  have hA2:=HH.out (by rw[HBM.out];simp)
  clear HH HM2
  go_wp2_with fail
  go_ret
  exact⟨bt (by rw[HS.out,HSB.out,HA1.out,hA2];rfl),hB⟩):G:=h
theorem T81 {G:Prop} (h:G:=by
  have hJ:=HF.out
  rw[HQ.out]at hJ
  simp[*]at hJ
  clear HF HQ
  go_wp2_with fail
  go_ret3
  refine⟨?_,hB⟩
  rw[HS.out]
  unfold rB
  simp[*]):G:=h
theorem T82 {G:Prop} (h:G:=by
  have hJ:=HF.out
  rw[HQ.out]at hJ
  simp[*]at hJ
  clear HF HQ
  go_wp2_with fail
  go_ret3
  refine⟨?_,hB⟩
  rw[HS.out]
  unfold rt
  simp[*]):G:=h
theorem T83 {G:Prop} (h:G:=by
  go_wp2_with fail
  go_roundw
  case rel=>exact⟨j+1,by omega,by go_num,by rw[HCN.out,hq2];go_num,trivial⟩
  case measure=>simp[aV];omega):G:=h
theorem T84 {G:Prop} (h:G:=by
  have hJ:=HF.out
  rw[HQ.out]at hJ
  simp[*]at hJ
  clear HF HQ
  go_wp2_with fail
  go_ret2
  refine⟨?_,hB⟩
  rw[HS.out]
  unfold sj
  simp[*]):G:=h
theorem uS {G:Prop} (h:G:=by
  go_wp2_with fail
  go_ret
  exact⟨bJ (by rw[HS.out];unfold sM ud;simp only[List.any_cons,List.any_nil,Bool.or_false];simp[*]),hB⟩):G:=h
theorem T86 {G:Prop} (h:G:=by
  have hne:(e != 0)=true:=by have h:=hz e rfl;simpa using h
  have hJ:=HF.out
  clear HF hz
  simp only at hJ
  go_wp2_with fail
  exact gW):G:=h
theorem T87 {G:Prop} (h:G:=by
  have hne:(e != 0)=true:=by have h:=hz e rfl;simpa using h
  have hJ:=HF.out
  clear HF hz
  simp only at hJ
  go_wp2_with fail
  exact eU):G:=h
theorem T88 {G:Prop} (h:G:=by
  have hne:(e != 0)=true:=by have h:=hz e rfl;simpa using h
  have hJ:=HF.out
  clear HF hz
  simp only at hJ
  go_wp2_with fail
  exact iN):G:=h
theorem T89 {G:Prop} (h:G:=by
  have hJ:=HF.out
  rw[HQ.out,HE.out]at hJ
  unfold sM at hJ
  rw[q0]at hJ
  simp[*]at hJ
  clear HF HQ HE
  go_wp2_with fail
  exact jc):G:=h
theorem uQ {G:Prop} (h:G:=by
  go_wp2_with fail
  go_ret
  exact⟨bJ (by rw[HS.out];unfold sg;simp only[List.any_cons,List.any_nil,Bool.or_false];simp[*]),hB⟩):G:=h
theorem T91 {G:Prop} (h:G:=by
  have hne:l'≠l:=λe2=>hn m om (by rw[hKm,e2];exact hx)
  rw[atKey_put_other hne]
  exact h3 l' z (λi hi=>hn i om)):G:=h
theorem T92 {G:Prop} (h:G:=by
  go_wp2_with fail
  go_roundw
  case rel=>exact⟨j+1,by omega,by go_num,by rw[HCN.out,hv];rfl,hC,hB⟩
  case measure=>simp[aV];omega):G:=h
theorem T93 {G:Prop} (h:G:=by
  have hJ:=HF.out
  rw[HQ.out]at hJ
  simp[g1]at hJ
  clear HF HQ
  exact js):G:=h
theorem T94 {G:Prop} (h:G:=by
  clear HN3 HH3
  exact uZ):G:=h
theorem T95 {G:Prop} (h:G:=by
  have hJ:=HF.out
  rw[HQ.out]at hJ
  simp[*]at hJ
  clear HF HQ
  exact js):G:=h
theorem T96 {G:Prop} (h:G:=by
  have hJ:=HF.out
  rw[HQ.out]at hJ
  simp[*]at hJ
  clear HF HQ
  go_wp2_with fail
  go_ret2
  refine⟨?_,hB⟩
  rw[HS.out]
  simp[rp, *]):G:=h
theorem T97 {G:Prop} (h:G:=by
  have hqb:(q != 0)=true:=by simpa using hq
  exact jh):G:=h
theorem qG {G:Prop} (h:G:=by
  clear HF HQ
  exact qV):G:=h
theorem tQ {G:Prop} (h:G:=by
  clear HF hz
  exact qV):G:=h
theorem ve {G:Prop} (h:G:=by
  simp[Instr.entryStore,MapKept.run_getObj_map hw2,asInt,asIntOf,goInt,hi,hm,MapKept.run_setObj_map _ hw2,Result.andThen,setBlock]):G:=h
theorem vf {G:Prop} (h:G:=by
  clear k0
  go_wp2_with fail
  go_roundw
  case rel=>exact⟨j+1,by omega,by go_num,HJ2,hC1,hB1⟩
  case measure=>simp[aV];omega):G:=h
theorem wL {G:Prop} (h:G:=by
  have k2d:decide (100000000<b1)=true:=decide_eq_true kd
  exact gY):G:=h
theorem wH {G:Prop} (h:G:=by
  rw[hr2]at hr
  obtain rfl:setBlock w b _=w':=by simpa using hr
  exact fu ho (hw3.trans (heap_setBlock_same hb _).symm)):G:=h
theorem wo {G:Prop} (h:G:=by
  clear HN HH
  exact uX):G:=h
theorem wJ {G:Prop} (h:G:=by
  have heb:(f3 != 0)=true:=by simpa using hef
  go_wp2_with fail
  go_ret3
  refine⟨?_,hB⟩
  rw[HS.out]
  unfold lf
  simp[*]):G:=h
theorem wg {G:Prop} (h:G:=by
  have heb:(z3 != 0)=true:=by simpa using hez
  go_wp2_with fail
  go_ret3
  refine⟨?_,hB⟩
  rw[HS.out]
  unfold lf
  simp[*]):G:=h
theorem vi {G:Prop} (h:G:=by
  have heb:(c3 != 0)=true:=by simpa using hec
  exact uI):G:=h
theorem wj {G:Prop} (h:G:=by
  have heb:(t3 != 0)=true:=by simpa using het
  exact uI):G:=h
theorem vM {G:Prop} (h:G:=by
  have heb:(e3 != 0)=true:=by simpa using hee
  exact uy):G:=h
theorem wG {G:Prop} (h:G:=by
  have hli:(8:Int)<(an:Int):=om
  exact jh):G:=h
theorem wy {G:Prop} (h:G:=by
  go_wp2_with fail
  go_roundw
  case rel=>exact⟨j+1,by omega,by go_num,HJ2,HN2,HOW,hC,hB⟩
  case measure=>simp[aV];omega):G:=h
theorem ww {G:Prop} (h:G:=by
  have heb:(w3 != 0)=true:=by simpa using hew
  exact uk):G:=h
theorem wB {G:Prop} (h:G:=by
  have heb:(a3 != 0)=true:=by simpa using hea
  exact uk):G:=h
theorem wu {G:Prop} (h:G:=by
  go_wp2_with fail
  go_ret
  exact⟨bJ (by rw[HQ2.out];simp[*]),hB.mono hbw,λh=>absurd h (by rw[HQ2.out];simp[*])⟩):G:=h
theorem mS {G:Prop} (h:G:=by
  go_wp2_with fail
  go_ret
  exact⟨bJ (by rw[HQ.out];simp[*]),hB.mono hbw,λh=>absurd h (by rw[HQ.out];simp[*])⟩):G:=h
theorem vu {G:Prop} (h:G:=by
  go_quiet (fail)
  go_wp2_with fail
  go_ret
  exact⟨bt (by rw[HS.out,HK.out,hq2]),aM (au _ _) _⟩):G:=h
theorem vG {G:Prop} (h:G:=by
  go_wp2_with fail
  go_roundw
  case rel=>exact⟨j+1,by omega,by go_num,HJ2,hM3,hC,hB⟩
  case measure=>simp[aV];omega):G:=h
theorem uv {G:Prop} (h:G:=by
  simp only[bg]at h
  exact(am.below h (aP (au _ _) _):am _ _ 3 #[M U i]).cell 0):G:=h
theorem rN {G:Prop} (h:G:=by
  go_wp2_with fail
  go_roundw
  case rel=>exact⟨k+1+1,by omega,by go_num,HJ2,hC,hB⟩
  case measure=>simp[aV];omega):G:=h
theorem vF {G:Prop} (h:G:=by
  have hti:(0:Int)<(D.tp:Int):=om
  exact uI):G:=h
theorem qV {G:Prop} (h:G:=by
  go_wp2_with fail
  go_roundw
  case rel=>exact⟨j+1,by omega,by go_num,HJ2,hC,hB⟩
  case measure=>simp[aV];omega):G:=h
theorem qf {G:Prop} (h:G:=by
  go_wp2_with fail
  go_roundw
  case rel=>exact⟨0+1,by omega,by go_num,HJ2,hC,hB⟩
  case measure=>simp[aV];omega):G:=h
theorem vR {G:Prop} (h:G:=by
  clear HN3 HH3
  exact ms):G:=h
theorem sY {G:Prop} (h:G:=by
  go_wp2_with fail
  go_roundw
  case rel=>exact⟨j+1,by omega,by go_num,hC,hC2,hB⟩
  case measure=>simp[aV];omega):G:=h
theorem wm {G:Prop} (h:G:=by
  have hB4:=ak hB3 hb
  go_wp2_with fail
  go_ret
  exact⟨bJ (by rw[HS.out,HCS.out,hf2,hs2];rfl),hB4⟩):G:=h
theorem sQ {G:Prop} (h:G:=by
  refine am.below ?_ (aP (au _ _) _)
  exact sH):G:=h
theorem qN {G:Prop} (h:G:=by
  have hL:D.long=true:=by rw[hle];simp[*]
  exact pK):G:=h
theorem vg {G:Prop} (h:G:=by
  go_wp2_with fail
  refine eH (dD _ _ _ _) ?_
  exact mE):G:=h
theorem ui {G:Prop} (h:G:=by
  go_wp2_with fail
  refine eH (bN _ _ _ _) ?_
  exact mE):G:=h
theorem vE {G:Prop} (h:G:=by
  go_wp2_with fail
  go_ret3
  refine⟨?_,hB⟩
  rw[HS.out]
  simp[eF,fB,hL,hr1,hr3,hr4,hr5,hdn,gz,hNA,gw]):G:=h
theorem mv {G:Prop} (h:G:=by
  obtain rfl:j=n:=om
  go_wp2_with fail
  go_ret
  exact⟨bJ (by rw[HI.out,Nat.sub_self];rfl),hB⟩):G:=h
theorem wC {G:Prop} (h:G:=by
  rw[hl]at h3
  exact⟨(has_put_other hne _).trans h3.1,λz=>(atKey_put_other hne _ _).trans (h3.2 z)⟩):G:=h
theorem vH {G:Prop} (h:G:=by
  clear HP HV
  exact td):G:=h
theorem ms {G:Prop} (h:G:=by
  go_wp2_with fail
  go_ret
  exact⟨bJ (by rw[HS.out,HQ.out,HE.out];simp[sg,rT,nO, *]),hB⟩):G:=h
theorem rE {G:Prop} (h:G:=by
  go_wp2_with fail
  refine aZ HC.out ?_
  intro w1 hb
  go_wp2_with fail
  go_ret
  exact⟨rfl,hb⟩):G:=h
theorem vO {G:Prop} (h:G:=by
  go_wp2_with fail
  refine eH (bN _ _ _ _) ?_
  exact ly):G:=h
theorem vj {G:Prop} (h:G:=by
  have hkb:(k2 != 0)=true:=by simpa using hk
  have hkc:(k2==0)=false:=by simpa using hk
  exact sh k2):G:=h
theorem iP {G:Prop} (h:G:=by
  go_wp2
  all_goals(go_ret;exact⟨bt (by rw[Bool.eq_iff_iff];simp[aI, *];try omega),rfl⟩)):G:=h
theorem vJ {G:Prop} (h:G:=by
  go_wp2_with fail
  refine eH (dt _ _ _ _) ?_
  exact ly):G:=h
theorem uG {G:Prop} (h:G:=by
  go_wp2_with fail
  refine eH (cR _ _ _ _) ?_
  exact ly):G:=h
theorem wx {G:Prop} (h:G:=by
  go_wp2_with fail
  refine eH (cI _ _ _ _) ?_
  exact ly):G:=h
theorem wI {G:Prop} (h:G:=by
  subst hwh
  exact bU):G:=h
theorem uY {G:Prop} (h:G:=by
  simp only[kY,List.setIfInBounds_toArray,List.set_cons_zero,List.set_cons_succ]at h9
  exact h9):G:=h
theorem vD {G:Prop} (h:G:=by
  go_wp2_with fail
  refine eH (bC _ _ _ _) ?_
  exact ly):G:=h
theorem vV {G:Prop} (h:G:=by
  go_wp2_with fail
  go_ret
  exact⟨bt (by rw[HS.out,HSB.out,hA2];rfl),aM hB _⟩):G:=h
theorem vm {G:Prop} (h:G:=by
  rintro rfl
  obtain⟨D,⟨es,clock,h1,_⟩,_⟩:=hM
  unfold am at h
  rw[h]at h1;cases h1):G:=h
theorem un {G:Prop} (h:G:=by
  go_wp2_with fail
  refine tS HP.out ?_
  intro w1 hb
  exact⟨rfl,rfl,ak hB hb⟩):G:=h
theorem vT {G:Prop} (h:G:=by
  cases h5:aI y 0 ((D.pn:Int) - 1)
  ·have h6:=aW.1 h5;omega
  rw[h5]at hw;simp at hw):G:=h
theorem wK {G:Prop} (h:G:=by
  go_wp2_with fail
  go_ret
  first|exact⟨true,rfl,λ_=>rfl,hB⟩|exact⟨true,rfl,rfl,hB⟩):G:=h
theorem td {G:Prop} (h:G:=by
  have hJ:=HF.out
  rw[HQ.out]at hJ
  simp[*]at hJ
  clear HF HQ
  go_wp2_with fail
  exact fT):G:=h
theorem k9 {G:Prop} (h:G:=by
  have hJ:=HF.out
  rw[HQ.out]at hJ
  simp[*]at hJ
  clear HF HQ
  go_wp2_with fail
  exact gj):G:=h
theorem tV {G:Prop} (h:G:=by
  intro w1 hb
  obtain⟨hC,hB⟩:=bS hC hB hb
  exact gU):G:=h
theorem j9 {G:Prop} (h:G:=by
  have hJ:=HF.out
  rw[HQ.out]at hJ
  simp[*]at hJ
  clear HF HQ
  go_wp2_with fail
  exact eU):G:=h
theorem um {G:Prop} (h:G:=by
  have hJ:=HF.out
  rw[HQ.out]at hJ
  simp[*]at hJ
  clear HF HQ
  go_wp2_with fail
  exact iN):G:=h
theorem jI {G:Prop} (h:G:=by
  have hJ:=HF.out
  rw[HQ.out]at hJ
  simp[*]at hJ
  clear HF HQ
  go_wp2_with fail
  exact iF):G:=h
theorem nu {G:Prop} (h:G:=by
  have hJ:=HF.out
  rw[HQ.out]at hJ
  simp[*]at hJ
  clear HF HQ
  go_wp2_with fail
  exact jc):G:=h
theorem jX {G:Prop} (h:G:=by
  have hJ:=HF.out
  rw[HQ.out]at hJ
  simp[*]at hJ
  clear HF HQ
  go_wp2_with fail
  exact gg):G:=h
theorem tX {G:Prop} (h:G:=by
  split at hk
  ·cases hk
  rename_i h4;have h4:=aW.1 (Bool.not_eq_true _▸h4);omega):G:=h
theorem ua {G:Prop} (h:G:=by
  have hJ:=HF.out
  rw[HQ.out]at hJ
  simp[*]at hJ
  clear HF HQ
  go_wp2_with fail
  exact tC):G:=h
theorem pY {G:Prop} (h:G:=by
  have hJ:=HF.out
  rw[HQ.out]at hJ
  simp[*]at hJ
  clear HF HQ
  go_wp2_with fail
  exact jz):G:=h
theorem wF {G:Prop} (h:G:=by
  exact cT [Dd1] _ (HMK.out.add hb HO.out.base hDd hKd) (ak HO.out.base hb)):G:=h
theorem vZ {G:Prop} (h:G:=by
  rintro e w1 ⟨rfl,hb1⟩
  go_wp2_with fail
  go_ret
  exact⟨rfl,ak hB0 hb1⟩):G:=h
theorem bU {G:Prop} (h:G:=by
  go_wp2_with fail
  go_ret
  exact⟨bJ (by rw[HS.out];simp[dm,lS,rX, *]),hB⟩):G:=h
theorem qI {G:Prop} (h:G:=by
  go_wp2_with fail
  go_ret
  exact⟨bJ (by rw[HS.out];simp at *;simp[iw, *]),hB⟩):G:=h
theorem wk {G:Prop} (h:G:=by
  clear HF HQ
  exact m7):G:=h
theorem wA {G:Prop} (h:G:=by
  have kn:((np:Int) != cols*rows)=true:=by simpa using kd
  go_wp2_with fail
  exact eZ):G:=h
theorem rI {G:Prop} (h:G:=by
  go_wp2_with fail
  go_ret
  exact⟨bJ (by rw[HS.out];simp at *;simp[vx, *]),hB⟩):G:=h
theorem jh {G:Prop} (h:G:=by
  go_wp2_with fail
  go_ret
  exact⟨bJ (by rw[HS.out,HE.out,HE2.out];simp[*]),hB⟩):G:=h
theorem tU {G:Prop} (h:G:=by
  go_wp2_with fail
  go_ret3
  refine⟨?_,hB⟩
  rw[HS.out]
  unfold qj
  rw[hwe]
  simp[*]):G:=h
theorem sR {G:Prop} (h:G:=by
  go_wp2_with fail
  go_ret
  exact⟨bt (by rw[HS.out];unfold ky;simp[*]),hB⟩):G:=h
theorem sJ {G:Prop} (h:G:=by
  obtain⟨m,y,hy,hw⟩:=hx i 0 hi (by decide)
  exact(i6 underlying9 hy hw).2):G:=h
theorem qm {G:Prop} (h:G:=by
  go_wp2_with fail
  go_ret
  exact⟨bJ (by rw[HQ.out];simp at *;simp[*]),hB⟩):G:=h
theorem uJ {G:Prop} (h:G:=by
  go_wp2_with fail
  go_ret
  exact⟨bt (by simp at *;simp[fW, *]),hB⟩):G:=h
theorem uF {G:Prop} (h:G:=by
  go_wp2
  all_goals(go_ret;exact⟨bt (by simp[aI, *]<;>omega),rfl⟩)):G:=h
theorem uh {G:Prop} (h:G:=by
  go_wp2_with fail
  go_ret
  exact⟨rfl,by first|exact hB|exact aP hB _⟩):G:=h
theorem ul {G:Prop} (h:G:=by
  rw[<-hW0]
  exact am.below (aK w _) (aP (au _ _) _)):G:=h
theorem m7 {G:Prop} (h:G:=by
  go_wp2_with fail
  go_ret3
  refine⟨?_,hB⟩
  rw[HS.out]
  simp[qj,hwe, *]):G:=h
theorem di {G:Prop} (h:G:=by
  go_wp2_with fail
  go_ret
  exact⟨bJ (by rw[HQ.out];simp[*]),hB⟩):G:=h
theorem tj {G:Prop} (h:G:=by
  obtain⟨R,h1,h2⟩:=gy hy hw
  exact⟨R,λ_ _=>⟨h1,h2⟩⟩):G:=h
theorem gY {G:Prop} (h:G:=by
  have hJ:=HF.out
  simp[*]at hJ
  clear HF
  go_wp2_with fail
  exact gG):G:=h
theorem js {G:Prop} (h:G:=by
  go_wp2_with fail
  go_ret3
  refine⟨?_,hB⟩
  rw[HS.out]
  simp[qj, *]):G:=h
theorem pK {G:Prop} (h:G:=by
  go_wp2_with fail
  go_ret3
  refine⟨?_,hB⟩
  rw[HS.out]
  simp[eF, *]):G:=h
theorem uc {G:Prop} (h:G:=by
  go_wp2_with fail
  go_ret2
  exact⟨⟨_,by rw[HE.out]<;>rfl⟩,hB⟩):G:=h
theorem tZ {G:Prop} (h:G:=by
  go_wp2_with fail
  go_ret
  exact⟨bt (by simp[sq, *]),hB⟩):G:=h
theorem gM {G:Prop} (h:G:=by
  have hq:q=ag:=by rw[HQ.out];simp[*]
  unfold bj;rw[HF.out,hq]):G:=h
theorem qP {G:Prop} (h:G:=by
  go_wp2_with fail
  go_ret3
  exact⟨by rw[HE.out]<;>rfl,hBq4⟩):G:=h
theorem ux {G:Prop} (h:G:=by
  go_wp2_with fail
  go_ret3
  exact⟨by rw[HE.out]<;>rfl,hB0⟩):G:=h
theorem jm {G:Prop} (h:G:=by
  go_wp2_with fail
  go_ret3
  exact⟨by rw[HE.out]<;>rfl,hB1⟩):G:=h
theorem re {G:Prop} (h:G:=by
  go_wp2_with fail
  go_ret3
  exact⟨by rw[HE.out]<;>rfl,hBj⟩):G:=h
theorem uM {G:Prop} (h:G:=by
  go_wp2_with fail
  go_ret
  exact⟨bt (by simp[*]),hB⟩):G:=h
theorem sH {G:Prop} (h:G:=by
  refine am.below ?_ (aP (au _ _) _)
  exact h):G:=h
theorem ry {G:Prop} (h:G:=by
  go_wp2_with fail
  go_ret
  exact⟨bJ HE.out.symm,hB0⟩):G:=h
theorem tu {G:Prop} (h:G:=by
  have h9:=HQ.out
  simp[g1,g2]at h9
  unfold bj;rw[HF.out,h9]):G:=h
theorem sA {G:Prop} (h:G:=by
  exact h.mono λ_ _ ⟨h1,h2⟩=>⟨h1,mW h2⟩):G:=h
theorem mE {G:Prop} (h:G:=by
  go_wp2_with fail
  go_ret
  exact⟨rfl,au _ _⟩):G:=h
theorem sO {G:Prop} (h:G:=by
  simp[results,results269,go_sem,c0,c1,c2,c3,c4,c5]):G:=h
theorem pZ {G:Prop} (h:G:=by
  have h9:=HQ.out
  simp at h9
  unfold bj;rw[HF.out,h9]):G:=h
theorem t5 {G:Prop} (h:G:=by
  go_wp2_with fail
  go_ret
  exact⟨rfl,aP hB _⟩):G:=h
theorem ly {G:Prop} (h:G:=by
  go_wp2_with fail
  go_ret
  exact⟨rfl,rfl⟩):G:=h
theorem gU {G:Prop} (h:G:=by
  go_wp2_with fail
  go_ret
  exact⟨rfl,hB⟩):G:=h
theorem sw {G:Prop} (h:G:=by
  exact(i6 underlying9 hy hw).1):G:=h
theorem K0 {G G':Prop} (k:G') (h:G'->G:=by
  intro hk
  refine br 0 hB ?_
  refine br 1 hB ?_
  refine br 2 hB ?_
  refine br 3 hB ?_
  refine br 4 hB ?_
  refine br 5 hB ?_
  refine br 6 hB ?_
  refine br 7 hB ?_
  refine br 8 hB ?_
  refine br 9 hB ?_
  refine br 10 hB ?_
  refine br 11 hB ?_
  refine br 12 hB ?_
  refine br 13 hB ?_
  refine br 14 hB ?_
  refine br 15 hB ?_
  refine br 16 hB ?_
  refine br 17 hB ?_
  refine br 18 hB ?_
  exact hk):G:=h k
theorem K1 {G G':Prop} (k:G') (h:G'->G:=by
  intro hk
  refine br 0 hB ?_
  refine br 1 hB ?_
  refine br 2 hB ?_
  refine br 3 hB ?_
  refine br 4 hB ?_
  refine br 5 hB ?_
  refine br 6 hB ?_
  exact hk):G:=h k
theorem K2 {G G':Prop} (k:G') (h:G'->G:=by
  intro hk
  refine br 0 hBd ?_
  refine br 1 hBd ?_
  refine br 2 hBd ?_
  refine br 3 hBd ?_
  refine br 4 hBd ?_
  refine br 5 hBd ?_
  refine br 6 hBd ?_
  refine br 7 hBd ?_
  refine br 8 hBd ?_
  exact hk):G:=h k
theorem K3 {G G':Prop} (k:G') (h:G'->G:=by
  intro hk
  refine br 0 hBd ?_
  refine br 1 hBd ?_
  refine br 2 hBd ?_
  refine br 3 hBd ?_
  refine br 4 hBd ?_
  exact hk):G:=h k
theorem K4 {G G':Prop} (k:G') (h:G'->G:=by
  intro hk
  refine br 19 hB ?_
  refine br 20 hB ?_
  refine br 21 hB ?_
  refine br 22 hB ?_
  refine br 23 hB ?_
  refine br 24 hB ?_
  exact hk):G:=h k
theorem K5 {G G':Prop} (k:G') (h:G'->G:=by
  intro hk
  refine br 9 hBd ?_
  refine br 10 hBd ?_
  refine br 11 hBd ?_
  refine br 12 hBd ?_
  refine br 13 hBd ?_
  refine br 14 hBd ?_
  exact hk):G:=h k
theorem K6 {G G':Prop} (k:G') (h:G'->G:=by
  intro hk
  refine br 8 hB ?_
  refine br 9 hB ?_
  refine br 10 hB ?_
  refine br 11 hB ?_
  refine br 12 hB ?_
  exact hk):G:=h k
theorem K7 {G G':Prop} (k:G') (h:G'->G:=by
  intro hk
  refine br 12 hC1 ?_
  refine br 13 hC1 ?_
  refine br 14 hC1 ?_
  refine br 15 hC1 ?_
  refine br 16 hC1 ?_
  refine br 17 hC1 ?_
  refine br 18 hC1 ?_
  refine br 19 hC1 ?_
  refine br 20 hC1 ?_
  refine br 21 hC1 ?_
  refine br 22 hC1 ?_
  refine br 23 hC1 ?_
  exact hk):G:=h k
theorem K8 {G G':Prop} (k:G') (h:G'->G:=by
  intro hk
  refine br 10 hB1 ?_
  refine br 11 hB1 ?_
  refine br 12 hB1 ?_
  refine br 13 hB1 ?_
  refine br 14 hB1 ?_
  refine br 15 hB1 ?_
  refine br 16 hB1 ?_
  refine br 17 hB1 ?_
  refine br 18 hB1 ?_
  refine br 19 hB1 ?_
  exact hk):G:=h k
theorem K9 {G G':Prop} (k:G') (h:G'->G:=by
  intro hk
  refine br 26 hC2 ?_
  refine br 27 hC2 ?_
  refine br 28 hC2 ?_
  refine br 29 hC2 ?_
  refine br 30 hC2 ?_
  refine br 31 hC2 ?_
  refine br 32 hC2 ?_
  refine br 33 hC2 ?_
  refine br 34 hC2 ?_
  exact hk):G:=h k
theorem uW {G:Prop} (h:G:=by
  go_wp2_with fail
  refine(HC.out _ hB).mono ?_
  rintro e w2 ⟨rfl,hb2⟩
  have hB2:ap w.heap.size w w2:=ak hB hb2
  clear hb2
  cases pj with
  |true=>
   go_wp2_with fail
   go_ret
   exact⟨bJ (by rw[HI.out,HS.out];rfl),hB2⟩
  |false=>
   go_wp2_with fail
   go_roundw
   case rel=>exact⟨j+1,by omega,by go_num,hB2,by unfold bj;rw[HI.out,HS.out];rfl⟩
   case measure=>simp[aV];omega):G:=h
theorem wD {G:Prop} (h:G:=by
  replace hB2:=ak hB2 hb
  rw[HNE.out]at g2
  go_wp2_with fail
  go_ret
  exact⟨bJ (by rw[HS.out];unfold eR;rw[HNE.out];simp[*]),ak hB hB2⟩):G:=h
theorem uZ {G:Prop} (h:G:=by
  go_wp2_with fail
  go_roundw
  case rel=>exact⟨m+1,by omega,by go_num,HM,hC,hD,hB⟩
  case measure=>simp[aV];omega):G:=h
theorem wM {G:Prop} (h:G:=by
  go_wp2_with fail
  go_roundw
  case rel=>exact⟨j+1,by omega,by go_num,hC,hB⟩
  case measure=>simp[aV];omega):G:=h
theorem uX {G:Prop} (h:G:=by
  go_wp2_with fail
  go_roundw
  case rel=>exact⟨j+1,by omega,by go_num,HM,hB⟩
  case measure=>simp[aV];omega):G:=h
theorem wz {G:Prop} (h:G:=by
  clear HF HQ
  go_wp2_with fail
  go_ret
  exact⟨bJ (by rw[HS.out,HE.out,HE2.out,HCA.out];simp[*]),hB⟩):G:=h
theorem qL {G:Prop} (h:G:=by
  by_cases hw:wth=-1
  ·subst hw
   exact bU
  have hwb:(wth != -1)=true:=by simpa using hw
  exact bU):G:=h
theorem ou {G:Prop} (h:G:=by
  go_wp2_with fail
  go_ret
  exact⟨bJ (by rw[HS.out];simp[oY, *]),hB⟩):G:=h
theorem uy {G:Prop} (h:G:=by
  go_wp2_with fail
  go_ret3
  refine⟨?_,hB⟩
  rw[HS.out]
  unfold pN
  simp[*]):G:=h
theorem uI {G:Prop} (h:G:=by
  go_wp2_with fail
  go_ret3
  refine⟨?_,hB⟩
  rw[HS.out]
  unfold ob
  simp[*]):G:=h
theorem uk {G:Prop} (h:G:=by
  go_wp2_with fail
  go_ret3
  refine⟨?_,hB⟩
  rw[HS.out]
  unfold tJ
  simp[*]):G:=h
theorem qO {G:Prop} (h:G:=by
  go_wp2_with fail
  go_ret
  exact⟨bt (by simp[qK, *]),hB⟩):G:=h
end
section
open Tryz
open Go.RowKit
def aU (w:aj) (v:aw) (n k:Nat) (F:Nat->Nat->aw):Prop:=
 ∃a c,v=T a n c/\n<=c/\(n=0\/∃b off,a=ai ⟨b,off,ag⟩/\b<w.heap.size/\∀i j,i<n->j<k->w.cell? ⟨b,off+i*k+j,ag⟩=ai (F i j))
theorem aU.below {w w':aj} {v:aw} {n k:Nat} {F:Nat->Nat->aw} (h:aU w v n k F) (hb:ap w.heap.size w w'):aU w' v n k F:=by
 obtain⟨a,c,rfl,hc,h⟩:=h
 refine⟨a,c,rfl,hc,?_⟩
 rcases h with h|⟨b,off,rfl,h1,h2⟩
 ·exact .inl h
 exact .inr ⟨b,off,rfl,aQ h1 hb.size,λi j hi hj=>by rw[hb.cell (p:=⟨b,off+i*k+j,ag⟩) h1];exact h2 i j hi hj⟩
theorem aU.elem {w:aj} {a:Option Addr} {c n k:Nat} {F:Nat->Nat->aw} (h:aU w (T a n c) n k F) {i:Nat} (hi:i<n):
  ∃b off,a=ai ⟨b,off,ag⟩/\b<w.heap.size/\∀j,j<k->w.cell? ⟨b,off+i*k+j,ag⟩=ai (F i j):=by
 obtain⟨a',c',he,_,h0|⟨b,off,rfl,h1,h2⟩⟩:=h
 ·omega
 simp only[aw.slice.injEq]at he
 obtain⟨rfl,-,rfl⟩:=he
 exact⟨b,off,rfl,h1,λj hj=>h2 i j hi hj⟩
def bw (R:Nat->Nat->Int) (i j:Nat):aw:=M U (R i j)
def aB (f:Nat->Option Int):Nat->Nat->Option (Nat×Int)
 |0,_=>ag
 |m+1,i=>match f i with
  |some e=>ai (i,e)
  |none=>aB f m (i+1)
theorem dw {f:Nat->Option Int} {n j:Nat} {e:Int} (hj:j<n) (h:f j=ai e):aB f (n - j) j=ai (j,e):=by
 rw[show n - j=(n - (j+1))+1 by omega];simp only[aB,h]
theorem gu {f:Nat->Option Int} {n j:Nat} (hj:j<n) (h:f j=ag):aB f (n - j) j=aB f (n - (j+1)) (j+1):=by
 rw[show n - j=(n - (j+1))+1 by omega];simp only[aB,h]
theorem bh (f:Nat->Option Int) (n:Nat):aB f (n - n) n=ag:=by rw[Nat.sub_self];rfl
def E3 (w:aj) (r:Int×Int×Int) (e:Ending) (w':aj):Prop:=e=ar (.tuple #[M U r.1,M U r.2.1,M U r.2.2])/\ap w.heap.size w w'
theorem bA {W:aj} {b:Nat} {t:aT} {a0 a1:aw} (h:am W b t #[a0,a1]):W.cell? ⟨b,0,ag⟩=ai a0/\W.cell? ⟨b,1,ag⟩=ai a1:=
 ⟨h.cell 0,h.cell 1⟩
theorem aL {W:aj} {b:Nat} {t:aT} {a0 a1 a2 a3 a4:aw} (h:am W b t #[a0,a1,a2,a3,a4]):W.cell? ⟨b,0,ag⟩=ai a0/\W.cell? ⟨b,1,ag⟩=ai a1/\W.cell? ⟨b,2,ag⟩=ai a2/\W.cell? ⟨b,3,ag⟩=ai a3/\W.cell? ⟨b,4,ag⟩=ai a4:=
 ⟨h.cell 0,h.cell 1,h.cell 2,h.cell 3,h.cell 4⟩
theorem aH {W:aj} {b:Nat} {t:aT} {a0 a1 a2 a3 a4 a5:aw} (h:am W b t #[a0,a1,a2,a3,a4,a5]):W.cell? ⟨b,0,ag⟩=ai a0/\W.cell? ⟨b,1,ag⟩=ai a1/\W.cell? ⟨b,2,ag⟩=ai a2/\W.cell? ⟨b,3,ag⟩=ai a3/\W.cell? ⟨b,4,ag⟩=ai a4/\W.cell? ⟨b,5,ag⟩=ai a5:=
 ⟨h.cell 0,h.cell 1,h.cell 2,h.cell 3,h.cell 4,h.cell 5⟩
theorem aJ {W:aj} {b:Nat} {t:aT} {a0 a1 a2 a3 a4 a5 a6:aw} (h:am W b t #[a0,a1,a2,a3,a4,a5,a6]):W.cell? ⟨b,0,ag⟩=ai a0/\W.cell? ⟨b,1,ag⟩=ai a1/\W.cell? ⟨b,2,ag⟩=ai a2/\W.cell? ⟨b,3,ag⟩=ai a3/\W.cell? ⟨b,4,ag⟩=ai a4/\W.cell? ⟨b,5,ag⟩=ai a5/\W.cell? ⟨b,6,ag⟩=ai a6:=
 ⟨h.cell 0,h.cell 1,h.cell 2,h.cell 3,h.cell 4,h.cell 5,h.cell 6⟩
theorem ek {W:aj} {b:Nat} {t:aT} {a0 a1 a2 a3 a4 a5 a6 a7:aw} (h:am W b t #[a0,a1,a2,a3,a4,a5,a6,a7]):W.cell? ⟨b,0,ag⟩=ai a0/\W.cell? ⟨b,1,ag⟩=ai a1/\W.cell? ⟨b,2,ag⟩=ai a2/\W.cell? ⟨b,3,ag⟩=ai a3/\W.cell? ⟨b,4,ag⟩=ai a4/\W.cell? ⟨b,5,ag⟩=ai a5/\W.cell? ⟨b,6,ag⟩=ai a6/\W.cell? ⟨b,7,ag⟩=ai a7:=
 ⟨h.cell 0,h.cell 1,h.cell 2,h.cell 3,h.cell 4,h.cell 5,h.cell 6,h.cell 7⟩
theorem bZ {W:aj} {b:Nat} {t:aT} {a0 a1 a2 a3 a4 a5 a6 a7 a8:aw} (h:am W b t #[a0,a1,a2,a3,a4,a5,a6,a7,a8]):W.cell? ⟨b,0,ag⟩=ai a0/\W.cell? ⟨b,1,ag⟩=ai a1/\W.cell? ⟨b,2,ag⟩=ai a2/\W.cell? ⟨b,3,ag⟩=ai a3/\W.cell? ⟨b,4,ag⟩=ai a4/\W.cell? ⟨b,5,ag⟩=ai a5/\W.cell? ⟨b,6,ag⟩=ai a6/\W.cell? ⟨b,7,ag⟩=ai a7/\W.cell? ⟨b,8,ag⟩=ai a8:=
 ⟨h.cell 0,h.cell 1,h.cell 2,h.cell 3,h.cell 4,h.cell 5,h.cell 6,h.cell 7,h.cell 8⟩
theorem cD {W:aj} {b:Nat} {t:aT} {a0 a1 a2 a3 a4 a5 a6 a7 a8 a9 a10:aw} (h:am W b t #[a0,a1,a2,a3,a4,a5,a6,a7,a8,a9,a10]):W.cell? ⟨b,0,ag⟩=ai a0/\W.cell? ⟨b,1,ag⟩=ai a1/\W.cell? ⟨b,2,ag⟩=ai a2/\W.cell? ⟨b,3,ag⟩=ai a3/\W.cell? ⟨b,4,ag⟩=ai a4/\W.cell? ⟨b,5,ag⟩=ai a5/\W.cell? ⟨b,6,ag⟩=ai a6/\W.cell? ⟨b,7,ag⟩=ai a7/\W.cell? ⟨b,8,ag⟩=ai a8/\W.cell? ⟨b,9,ag⟩=ai a9/\W.cell? ⟨b,10,ag⟩=ai a10:=
 ⟨h.cell 0,h.cell 1,h.cell 2,h.cell 3,h.cell 4,h.cell 5,h.cell 6,h.cell 7,h.cell 8,h.cell 9,h.cell 10⟩
theorem aX {W:aj} {b:Nat} {t:aT} {a0 a1 a2 a3 a4 a5 a6 a7 a8 a9 a10 a11 a12:aw} (h:am W b t #[a0,a1,a2,a3,a4,a5,a6,a7,a8,a9,a10,a11,a12]):W.cell? ⟨b,0,ag⟩=ai a0/\W.cell? ⟨b,1,ag⟩=ai a1/\W.cell? ⟨b,2,ag⟩=ai a2/\W.cell? ⟨b,3,ag⟩=ai a3/\W.cell? ⟨b,4,ag⟩=ai a4/\W.cell? ⟨b,5,ag⟩=ai a5/\W.cell? ⟨b,6,ag⟩=ai a6/\W.cell? ⟨b,7,ag⟩=ai a7/\W.cell? ⟨b,8,ag⟩=ai a8/\W.cell? ⟨b,9,ag⟩=ai a9/\W.cell? ⟨b,10,ag⟩=ai a10/\W.cell? ⟨b,11,ag⟩=ai a11/\W.cell? ⟨b,12,ag⟩=ai a12:=
 ⟨h.cell 0,h.cell 1,h.cell 2,h.cell 3,h.cell 4,h.cell 5,h.cell 6,h.cell 7,h.cell 8,h.cell 9,h.cell 10,h.cell 11,h.cell 12⟩
def em (N:Nat->ByteArray) (R:Nat->Nat->Int) (i j:Nat):aw:=match j with
 |0=>ay (N i)
 |j+1=>M U (R i (j+1))
def cH (p:Nat->Bool):Nat->Nat->Int
 |0,_=>-1
 |f+1,k=>if p k then(k:Int)else cH p f (k+1)
def bI (p:Nat->Bool) (n:Nat):Bool:=(List.range n).any p
theorem dj (p:Nat->Bool) {n j:Nat} (h:j<n):cH p (n - j) j=if p j then(j:Int)else cH p (n - (j+1)) (j+1):=by
 rw[show n - j=(n - (j+1))+1 by omega];rfl
theorem pF (p:Nat->Bool):∀(f k:Nat),0<=cH p f k↔∃i,k<=i/\i<k+f/\p i=true:=by
 intro f
 induction f with
 |zero=>intro k;simp only[cH];constructor
        ·intro h;omega
        ·rintro⟨i,h1,h2,_⟩;omega
 |succ f ih=>
  intro k
  simp only[cH]
  cases hp:p k with
  |true=>simp only[if_true];exact⟨λ_=>⟨k,aY _,by omega,hp⟩,λ_=>by omega⟩
  |false=>
   simp only[Bool.false_eq_true,if_false]
   rw[ih (k+1)]
   constructor
   ·rintro⟨i,h1,h2,h3⟩;exact⟨i,by omega,by omega,h3⟩
   rintro⟨i,h1,h2,h3⟩
   refine⟨i,?_,by omega,h3⟩
   rcases Nat.lt_or_ge k i with h|h
   ·omega
   have:i=k:=om
   rw[this,hp]at h3;cases h3
theorem dp (p:Nat->Bool) (n:Nat):0<=cH p n 0↔bI p n=true:=by
 rw[pF]
 unfold bI
 rw[List.any_eq_true]
 constructor
 ·rintro⟨i,_,h2,h3⟩;exact⟨i,List.mem_range.2 om,h3⟩
 rintro⟨i,h1,h3⟩;exact⟨i,by omega,by have:=List.mem_range.1 h1;omega,h3⟩
theorem aU.eF9 {w:aj} {a:Option Addr} {c n:Nat} {F:Nat->Nat->aw} (h:aU w (T a n c) n 9 F) {i:Nat} (hi:i<n):∃b off,a=ai ⟨b,off,ag⟩/\b<w.heap.size/\w.cell? ⟨b,off+i*9,ag⟩=ai (F i 0)/\w.cell? ⟨b,off+i*9+1,ag⟩=ai (F i 1)/\w.cell? ⟨b,off+i*9+2,ag⟩=ai (F i 2)/\w.cell? ⟨b,off+i*9+3,ag⟩=ai (F i 3)/\w.cell? ⟨b,off+i*9+4,ag⟩=ai (F i 4)/\w.cell? ⟨b,off+i*9+5,ag⟩=ai (F i 5)/\w.cell? ⟨b,off+i*9+6,ag⟩=ai (F i 6)/\w.cell? ⟨b,off+i*9+7,ag⟩=ai (F i 7)/\w.cell? ⟨b,off+i*9+8,ag⟩=ai (F i 8):=by
 obtain⟨b,o,e,l,hc⟩:=h.elem hi
 exact⟨b,o,e,l,r9 hc⟩
theorem aU.eI2 {w:aj} {a:Option Addr} {c n:Nat} {R:Nat->Nat->Int} (h:aU w (T a n c) n 2 (bw R)) {i:Nat} (hi:i<n):∃b off,a=ai ⟨b,off,ag⟩/\b<w.heap.size/\w.cell? ⟨b,off+i*2,ag⟩=ai (M U (R i 0))/\w.cell? ⟨b,off+i*2+1,ag⟩=ai (M U (R i 1)):=by
 obtain⟨b,o,e,l,hc⟩:=h.elem hi
 exact⟨b,o,e,l,r2 hc⟩
theorem aU.eS13 {w:aj} {a:Option Addr} {c n:Nat} {N:Nat->ByteArray} {R:Nat->Nat->Int} (h:aU w (T a n c) n 13 (em N R)) {i:Nat} (hi:i<n):∃b off,a=ai ⟨b,off,ag⟩/\b<w.heap.size/\w.cell? ⟨b,off+i*13,ag⟩=ai (ay (N i))/\w.cell? ⟨b,off+i*13+1,ag⟩=ai (M U (R i 1))/\w.cell? ⟨b,off+i*13+2,ag⟩=ai (M U (R i 2))/\w.cell? ⟨b,off+i*13+3,ag⟩=ai (M U (R i 3))/\w.cell? ⟨b,off+i*13+4,ag⟩=ai (M U (R i 4))/\w.cell? ⟨b,off+i*13+5,ag⟩=ai (M U (R i 5))/\w.cell? ⟨b,off+i*13+6,ag⟩=ai (M U (R i 6))/\w.cell? ⟨b,off+i*13+7,ag⟩=ai (M U (R i 7))/\w.cell? ⟨b,off+i*13+8,ag⟩=ai (M U (R i 8))/\w.cell? ⟨b,off+i*13+9,ag⟩=ai (M U (R i 9))/\w.cell? ⟨b,off+i*13+10,ag⟩=ai (M U (R i 10))/\w.cell? ⟨b,off+i*13+11,ag⟩=ai (M U (R i 11))/\w.cell? ⟨b,off+i*13+12,ag⟩=ai (M U (R i 12)):=by
 obtain⟨b,o,e,l,hc⟩:=h.elem hi
 exact⟨b,o,e,l,⟨hc 0 om,hc 1 om,hc 2 om,hc 3 om,hc 4 om,hc 5 om,hc 6 om,hc 7 om,hc 8 om,hc 9 om,hc 10 om,hc 11 om,hc 12 om⟩⟩
end
section
open Tryz
open Go.RowKit
theorem dZ (s:ByteArray) (w:aj) (hs:s.size<=9223372036854775806):
  aC prog 65 #[ay s] w λe w'=>e=ar (aA (dq s.data.toList))/\w=w':=by
 have e0:s.data.toList.length=s.size:=by simp
 by_cases h1:s.size<1
 ·exact T42
 by_cases h2:24<s.size
 ·exact T42
 have HN:bj (dq s.data.toList=!cY s.data.toList 0):=show _=_ from by
  unfold dq;rw[e0,decide_eq_true (show 1<=s.size by omega),decide_eq_true (show s.size<=24 by omega)];simp
 have HE0:=af e0
 clear e0
 go_enter func65,ntmps65
 go_wp2_with fail
 go_loop [3] (λi=>∃k:Nat,k<=s.size/\i=M U k/\bj (cY s.data.toList 0=cY (s.data.toList.drop k) k)) (λi=>s.size - (aV i).toNat)
 case atStart=>exact⟨0,aF _,rfl,rfl⟩
 case round=>
  obtain⟨k,hk,rfl,HI⟩:=hrel
  by_cases hlt:k<s.size
  rotate_left
  ·obtain rfl:k=s.size:=om
   go_wp2_with fail
   go_ret
   refine⟨bt ?_,rfl⟩
   rw[HN.out,HI.out,<-HE0.out,iI]
   rfl
  have HS:bj (cY (s.data.toList.drop k) k=(ed k (s[k].toNat:Int)||cY (s.data.toList.drop (k+1)) (k+1))):=show _=_ from by
   have h:=ie s.data.toList k (by rw[HE0.out];exact hlt)
   have hg:s.data.toList.getD k 0=s[k]:=by
    rw[List.getD_eq_getElem?_getD,List.getElem?_eq_getElem (by rw[HE0.out];exact hlt)]
    simp
    rfl
   rw[hg,pw]at h
   exact h
  have hx0:(0:Int)<=(s[k].toNat:Int):=om
  have hx1:(s[k].toNat:Int)<256:=by have:=s[k].toNat_lt;omega
  have hx:(s[k].toNat:Int)<45\/(45<=(s[k].toNat:Int)/\(s[k].toNat:Int)<=45)\/(46<=(s[k].toNat:Int)/\(s[k].toNat:Int)<=47)\/(48<=(s[k].toNat:Int)/\(s[k].toNat:Int)<=57)\/(58<=(s[k].toNat:Int)/\(s[k].toNat:Int)<=96)\/(97<=(s[k].toNat:Int)/\(s[k].toNat:Int)<=122)\/123<=(s[k].toNat:Int):=om
  generalize hgx:(s[k].toNat:Int)=x at *
  have HGX:=af hgx
  clear hgx
  have hkk:k<=0\/1<=k:=om
  rcases hx with h|⟨h,h'⟩|⟨h,h'⟩|⟨h,h'⟩|⟨h,h'⟩|⟨h,h'⟩|h<;>rcases hkk with hk0|hk0
  all_goals(try have q1:((k:Int)==0)=false:=beq_eq_false_iff_ne.2 om)
  all_goals(try have q5:(x==45)=false:=beq_eq_false_iff_ne.2 om)
  all_goals(try have q6:(x==45)=true:=beq_iff_eq.2 om)
  all_goals(try have q3:decide (x<=57)=false:=decide_eq_false om)
  all_goals(try have q4:decide (x<=122)=false:=decide_eq_false om)
  all_goals(have HGY:=HGX.out;clear HGX)
  all_goals(go_wp2_with fail)
  all_goals(first
   |(go_ret;refine⟨bt ?_,rfl⟩
     have hcb:ed k x=true:=by(unfold ed;simp;omega)
     rw[HN.out,HI.out,HS.out,hcb];simp;done)
   |(go_round
     case rel=>
      have hcb:ed k x=false:=by(unfold ed;simp;omega)
      exact⟨k+1,by omega,by go_num,by unfold bj;rw[HI.out,HS.out,hcb];simp⟩
     case measure=>(simp[aV];omega))
   |(obtain rfl:k=0:=om
     have hcb:ed 0 x=false:=by(unfold ed;simp;omega)
     refine⟨⟨1,by omega,rfl,?_⟩,?_⟩
     ·unfold bj;rw[HI.out,HS.out,hcb];simp
     simp[aV];omega))
end
section
open Tryz
open Go.RowKit
section
variable {P:Program} {f:FuncId} {a:Array aw} {w:aj} {Q:Ending->aj->Prop}
theorem bm {b:Bool} (h:aC P f a w λe w'=>e=ar (aA b)/\w=w') (hK:∀c:Bool,b=c->Q (ar (aA c)) w):aC P f a w Q:=
 h.mono λ_ _ ⟨he,hw⟩=>by subst he;subst hw;exact hK b rfl
theorem bH {w0:aj} {b:Bool} (h:aC P f a w λe w'=>e=ar (aA b)/\ap w0.heap.size w0 w') (hK:∀(c:Bool) (w1:aj),b=c->ap w0.heap.size w0 w1->Q (ar (aA c)) w1):aC P f a w Q:=
 h.mono λ_ w1 ⟨he,hw⟩=>by subst he;exact hK b w1 rfl hw
theorem aR {b:Bool} (h:aC P f a w λe w'=>e=ar (aA (!b))/\w=w') (hK:∀c:Bool,b=c->Q (ar (aA (!c))) w):aC P f a w Q:=
 h.mono λ_ _ ⟨he,hw⟩=>by subst he;subst hw;exact hK b rfl
theorem cg {w0:aj} {b:Bool} (h:aC P f a w λe w'=>e=ar (aA (!b))/\ap w0.heap.size w0 w') (hK:∀(c:Bool) (w1:aj),b=c->ap w0.heap.size w0 w1->Q (ar (aA (!c))) w1):aC P f a w Q:=
 h.mono λ_ w1 ⟨he,hw⟩=>by subst he;exact hK b w1 rfl hw
theorem eH {v:aw} (h:aC P f a w λe w'=>e=ar v/\w=w') (hK:Q (ar v) w):aC P f a w Q:=
 h.mono λ_ _ ⟨he,hw⟩=>by subst he;subst hw;exact hK
theorem aZ {w0:aj} {v:aw} (h:aC P f a w λe w'=>e=ar v/\ap w0.heap.size w0 w') (hK:∀(w1:aj),ap w0.heap.size w0 w1->Q (ar v) w1):aC P f a w Q:=
 h.mono λ_ w1 ⟨he,hw⟩=>by subst he;exact hK w1 hw
end
def ej (a b:ByteArray):Bool:=a.toList==b.toList
theorem bf (f:Nat->Option Int) {n j:Nat} (hj:j<n):aB f (n - j) j=match f j with
  |some e=>ai (j,e)
  |none=>aB f (n - (j+1)) (j+1):=by
 rw[show n - j=(n - (j+1))+1 by omega];rfl
theorem cd {p:Nat->Bool} {n m:Nat} (hm:m<n) (h:p m=true):bI p n=true:=
 List.any_eq_true.2 ⟨m,List.mem_range.2 hm,h⟩
theorem bT {p:Nat->Bool} {n:Nat} (h:∀k,k<n->p k=false):bI p n=false:=by
 unfold bI
 rw[List.any_eq_false]
 intro x hx
 rw[h x (List.mem_range.1 hx)]
 simp
theorem dS {p:Nat->Bool} {m:Nat} (h:∀k,k<m->p k=false) (h2:p m=false):∀k,k<m+1->p k=false:=by
 intro k hk
 rcases Nat.lt_or_ge k m with h3|h3
 ·exact h k h3
 obtain rfl:k=m:=om
 exact h2
end
section
open Tryz
open Go.RowKit Go.Shelf
def cW (w:aj) (B:Nat) (v:aw) (n k:Nat) (F:Nat->Nat->aw):Prop:=
 ∃a c,v=T a n c/\n<=c/\(n=0\/∃g,a=ai ⟨g,0,ag⟩/\B<=g/\g<w.heap.size/\∀i j,i<n->j<k->w.cell? ⟨g,i*k+j,ag⟩=ai (F i j)/\w.frozen? ⟨g,i*k+j,ag⟩=false)
theorem fo {w w':aj} {p:Addr} (h:w'.heap[p.block]?=w.heap[p.block]?):w'.frozen? p=w.frozen? p:=by
 unfold aj.frozen?;rw[h]
theorem cW.row {w:aj} {B:Nat} {v:aw} {n k:Nat} {F:Nat->Nat->aw} (h:cW w B v n k F):aU w v n k F:=by
 obtain⟨a,c,rfl,hc,h⟩:=h
 refine⟨a,c,rfl,hc,?_⟩
 rcases h with h|⟨g,rfl,_,h1,h2⟩
 ·exact .inl h
 exact .inr ⟨g,0,rfl,h1,λi j hi hj=>by rw[Nat.zero_add];exact(h2 i j hi hj).1⟩
theorem cW.below {w w':aj} {B:Nat} {v:aw} {n k:Nat} {F:Nat->Nat->aw} (h:cW w B v n k F) (hb:ap w.heap.size w w'):cW w' B v n k F:=by
 obtain⟨a,c,rfl,hc,h⟩:=h
 refine⟨a,c,rfl,hc,?_⟩
 rcases h with h|⟨g,rfl,h0,h1,h2⟩
 ·exact .inl h
 exact .inr ⟨g,rfl,h0,aQ h1 hb.size,λi j hi hj=>⟨by rw[hb.cell (p:=⟨g,i*k+j,ag⟩) h1];exact(h2 i j hi hj).1,by rw[fo (p:=⟨g,i*k+j,ag⟩) (hb.block g h1)];exact(h2 i j hi hj).2⟩⟩
theorem cW.mono {w:aj} {B B':Nat} {v:aw} {n k:Nat} {F:Nat->Nat->aw} (h:cW w B v n k F) (hB:B'<=B):cW w B' v n k F:=by
 obtain⟨a,c,rfl,hc,h⟩:=h
 refine⟨a,c,rfl,hc,?_⟩
 rcases h with h|⟨g,rfl,h0,h1⟩
 ·exact .inl h
 exact .inr ⟨g,rfl,by omega,h1⟩
theorem cW.nil (w:aj) (B:Nat) (a:Option Addr) (c k:Nat) (F:Nat->Nat->aw):cW w B (T a 0 c) 0 k F:=⟨a,c,rfl,aF _, .inl rfl⟩
theorem rr {F:Nat->Nat->aw} {n k:Nat} {i j:Nat} (hi:i<n) (hj:j<k):((List.range (n*k)).map λm=>F (m / k) (m % k))[i*k+j]?=ai (F i j):=by
 have hlt:i*k+j<n*k:=by
  have h1:(i+1)*k<=n*k:=Nat.mul_le_mul_right k hi
  rw[Nat.succ_mul]at h1;omega
 have hk:0<k:=om
 simp only[List.getElem?_map,List.getElem?_range hlt,Option.map_some]
 rw[Nat.mul_comm i k,Nat.mul_add_div hk,Nat.div_eq_of_lt hj,Nat.mul_add_mod,Nat.mod_eq_of_lt hj,bq]
theorem cW.of_own {w:aj} {B:Nat} {v:aw} {n k:Nat} {e:aT} {F:Nat->Nat->aw} (h:w.ownsRow B e k v n ((List.range (n*k)).map λm=>F (m / k) (m % k))):cW w B v n k F:=by
 obtain⟨hl,h⟩:=h
 rcases h with⟨rfl,rfl⟩|⟨g,cap,cur,rfl,hb,hg,hc,hcm,hcs,ht⟩
 ·exact cW.nil _ _ _ _ _ _
 refine⟨_,_,rfl,hc,?_⟩
 rcases Nat.eq_zero_or_pos n with h0|h0
 ·exact .inl h0
 refine .inr ⟨g,rfl,hb,(Array.getElem?_eq_some_iff.1 hg).1,λi j hi hj=>?_⟩
 have hlt:i*k+j<n*k:=by
  have h1:(i+1)*k<=n*k:=Nat.mul_le_mul_right k hi
  rw[Nat.succ_mul]at h1;omega
 have h1:cur.toList[i*k+j]?=ai (F i j):=by
  rw[<-rr (F:=F) hi hj,<-ht,List.getElem?_take,if_pos hlt]
 refine⟨?_,?_⟩
 ·simp[aj.cell?,hg,<-Array.getElem?_toList,h1]
 simp[aj.frozen?,hg]
theorem infoC_clone_ints:(prog.info? 3).map (λi=>(i.zero,i.size,i.bytes))=ai (ai (M U 0),1,8):=by kernel_rfl
theorem gN (n:Nat) (F:Nat->Nat->aw) (v:aw) (w:aj) (hR:aU w v n 1 F) (hn:n<=1000000) (h1:∀i j,i<n->j<1->(F i j).oneCell'=true):
  aC prog 411 #[v] w λe w'=>∃v':aw,e=ar v'/\cW w' w.heap.size v' n 1 F/\ap w.heap.size w w':=by
 obtain⟨ra,rc,rfl,hrc,h⟩:=hR
 cases ra with
 |none=>
  obtain rfl:n=0:=by
   rcases h with h|⟨b,off,h,_⟩
   ·exact h
   cases h
  clear h
  have he:∀W:aj,Sem.run prog (binOp .eql 24 (T ag 0 rc) (T ag 0 0)) W= .ok (aA true) W:=λW=>by kernel_rfl
  go_enter func411,ntmps411
  go_wp2_with fail
  go_ret
  exact⟨_,rfl,cW.nil _ _ _ _ _ _,au _ _⟩
 |some a=>
  rcases Nat.eq_zero_or_pos n with h0|h0
  ·subst h0
   clear h
   have he:∀W:aj,Sem.run prog (binOp .eql 24 (T (ai a) 0 rc) (T ag 0 0)) W= .ok (aA false) W:=λW=>by kernel_rfl
   go_enter func411,ntmps411
   go_wp2_with fail
   go_ret
   exact⟨_,rfl,cW.nil _ _ _ _ _ _,aP (au _ _) _⟩
  obtain⟨b,off,hae,hlt,hc⟩:∃b off,ai a=ai ⟨b,off,ag⟩/\b<w.heap.size/\∀i j,i<n->j<1->w.cell? ⟨b,off+i*1+j,ag⟩=ai (F i j):=by
   rcases h with h|h
   ·omega
   exact h
  cases hae
  clear h
  have he:∀W:aj,Sem.run prog (binOp .eql 24 (T (ai ⟨b,off,ag⟩) n rc) (T ag 0 0)) W= .ok (aA false) W:=λW=>by kernel_rfl
  obtain⟨i0,hi,hz0,hz1,hz2⟩:=info_parts infoC_clone_ints
  have hown:aj.ownsRow (w.alloc (.cells #[] 3)) w.heap.size 3 1 (T (ai ⟨w.heap.size,0,ag⟩) 0 0) 0 []:=⟨by simp, .inr ⟨w.heap.size,0,#[],rfl,aY _,aj.alloc_heap_new _ _,aY _,by unfold cF;omega,by simp,by simp⟩⟩
  have hnews:∀j u,((List.range (n*1)).map λm=>F (m / 1) (m % 1))[j]?=ai u->(w.alloc (.cells #[] 3)).cell? (Addr.add ⟨b,off,ag⟩ j)=ai u:=λj u hu=>by
   simp only[List.getElem?_map]at hu
   rcases Nat.lt_or_ge j (n*1)with hj|hj
   rotate_left
   ·rw[List.getElem?_eq_none (by simpa using hj)]at hu
    cases hu
   rw[List.getElem?_range hj]at hu
   simp only[Option.map_some,Option.some.injEq]at hu
   subst hu
   have hk:j / 1<n:=by rw[Nat.div_lt_iff_lt_mul om];exact hj
   have h:=hc (j / 1) (j % 1) hk (Nat.mod_lt _ om)
   have hb:=aP (au w.heap.size w) (.cells #[] 3)
   have hdm:=Nat.div_add_mod j 1
   have hj2:off+j / 1*1+j % 1=off+j:=by rw[Nat.add_assoc,Nat.mul_comm,hdm]
   rw[hj2]at h
   have h9:=(hb.cell (p:=⟨b,off+j,ag⟩) hlt).trans h
   have ha:Addr.add ⟨b,off,ag⟩ j=⟨b,off+j,ag⟩:=by
    unfold Addr.add
    by_cases hz:j=0
    ·rw[if_pos hz,hz];rfl
    rw[if_neg hz]
   rw[ha]
   exact h9
  have hone:∀u∈((List.range (n*1)).map λm=>F (m / 1) (m % 1)),u.oneCell'=true:=λu hu=>by
   rw[List.mem_map]at hu
   obtain⟨m,hm,rfl⟩:=hu
   have hm:=List.mem_range.1 hm
   exact h1 _ _ (by rw[Nat.div_lt_iff_lt_mul om];exact hm) (Nat.mod_lt _ om)
  have hlen:((List.range (n*1)).map λm=>F (m / 1) (m % 1)).length=n*1:=by simp
  have HX:=af (show∀(v:aw) (W:aj),W.ownsRow w.heap.size 3 1 v n ((List.range (n*1)).map λm=>F (m / 1) (m % 1))->cW W w.heap.size v n 1 F from λv W h=>cW.of_own h)
  generalize((List.range (n*1)).map λm=>F (m / 1) (m % 1))=news at *
  clear hc h1 hlt
  have HW:=af hnews
  have H1:=af hone
  have HO:=af hown
  clear hnews hone hown
  go_enter func411,ntmps411
  go_wp2_with (at_builtin;refine ci _ (by rfl) _ _ _ (by rfl) w.heap.size 3 i0 _ 1 8 underlying24 hi hz0 hz1 hz2 rfl om _ 0 [] (by rfl) HO.out ⟨b,off,ag⟩ n rc news (by rfl) hlen HW.out H1.out h0 (by unfold cF;omega) om (by simp) _ rfl ?_;intro g cap w1 hown hgrow hat hltg)
  go_ret
  rw[Nat.zero_add,List.nil_append]at hown
  exact⟨_,rfl,HX.out _ _ (by simpa using hown),(aP (au _ _) _).grown hgrow (by simp) (λk e=>by cases e;exact aY _)⟩
end
section
open Tryz
open Go.RowKit Go.Maps Go.WideMaps
def cG (P:Program) (k:aT) (w:aj) (b m:Nat) (K:Nat->aw):Prop:=
 ∃D:DataW Unit,w.ownsMap P k (plainElem P 4) b m D/\(∀i,i<m->∃l,keyOf P k (K i)=ai l/\∀z,D.atKey l z= .lit (.bool true))/\∀l z,(∀i,i<m->keyOf P k (K i)≠ai l)->D.atKey l z=z
theorem eQ {P:Program} (he:P.underlying 4=ai .bool) {v:aw} {c:Bool} {ps:List MemPlace} (h:plainElem (H:=Unit) P 4 v=ai (.lit (.bool c),ps)):v= .bool c:=by
 unfold plainElem at h
 rw[he]at h
 cases v<;>simp at h
 rw[h.1]
theorem cG.made (P:Program) (k:aT) (w:aj) (K:Nat->aw):cG P k (w.alloc (.map #[] 0)) w.heap.size 0 K:=
 ⟨.map [],aj.ownsMap_made _ _ _ _,λi h=>absurd h om,λ_ _ _=>rfl⟩
theorem cG.lt {P:Program} {k:aT} {w:aj} {b m:Nat} {K:Nat->aw} (h:cG P k w b m K):b<w.heap.size:=by
 obtain⟨D,h1,_⟩:=h;exact h1.lt
theorem cG.below {P:Program} {k:aT} {w w':aj} {b m:Nat} {K:Nat->aw} (h:cG P k w b m K) (hb:ap w.heap.size w w'):cG P k w' b m K:=by
 obtain⟨D,h1,h2⟩:=h
 have hlt:=h1.lt
 obtain⟨es,clock,h3,h4⟩:=h1
 exact⟨D,⟨es,clock,(hb.block b hlt).trans h3,h4⟩,h2⟩
section
variable {P:Program} {k t:aT} {w:aj} {b m:Nat} {K:Nat->aw}
theorem cG.look (h:cG P k w b m K) (Y:Keyed P k) (ht:P.underlying t=ai (.map k 4)) (he:P.underlying 4=ai .bool) (hz:(zeroValue 4).run P w= .ok (.bool false) w) {x:aw} {l:Lit} (hx:keyOf P k x=ai l)
  (p:Nat->Bool) (hp:∀i,i<m->(p i=true↔K i=x)):(Instr.lookup t (.map (ai b)) x false).run P w= .ok (.bool (bI p m)) w:=by
 obtain⟨D,h1,h2,h3⟩:=h
 obtain⟨v,ps,hrun,hv⟩:=h1.lookup Y ht hz (plainElem_bool he false) hx
 rw[hrun]
 suffices hs:v= .bool (bI p m)by rw[hs]
 cases ha:bI p m with
 |true=>
  unfold bI at ha
  rw[List.any_eq_true]at ha
  obtain⟨i,hi,hpi⟩:=ha
  have hi':=List.mem_range.1 hi
  obtain⟨l',h4,h5⟩:=h2 i hi'
  rw[(hp i hi').1 hpi,hx]at h4
  cases h4
  rw[h5]at hv
  exact eQ he hv
 |false=>
  have hn:∀i,i<m->keyOf P k (K i)≠ai l:=λi hi e=>by
   have h6:=(hp i hi).2 (Y.inj e hx)
   have h7:=cd (p:=p) hi h6
   rw[ha]at h7;cases h7
  rw[h3 l _ hn]at hv
  exact eQ he hv
theorem cG.put (h:cG P k w b m K) (Y:Keyed P k) (ht:P.underlying t=ai (.map k 4)) (he:P.underlying 4=ai .bool) (hm:m<cF) {x:aw} {l:Lit} (hx:keyOf P k x=ai l) (hKm:K m=x):
  ∃w',(Instr.mapUpdate t (.map (ai b)) x (.bool true)).run P w= .ok () w'/\cG P k w' b (m+1) K/\w.grownBy w' (ai b):=by
 obtain⟨D,h1,h2,h3⟩:=h
 obtain⟨w',r1,r2,r3⟩:=h1.update Y ht hm hx (plainElem_bool he true)
 refine⟨w',r1,⟨_,r2,λi hi=>?_,λl' z hn=>?_⟩,r3⟩
 rotate_left
 ·exact T91
 by_cases e:K i=x
 ·exact⟨l,by rw[e];exact hx,λz=>atKey_put_same h1.isMap (Y.key hx) _ _⟩
 exact T44
end
theorem dg {W W':aj} {b:Nat} {t:aT} {cs:Array aw} {row:Option Nat} (h:am W b t cs) (hg:W.grownBy W' row) (hn:∀g,row=ai g->g≠b):am W' b t cs:=
 (hg.block b h.lt (λe=>hn b e.symm rfl)).trans h
theorem mj:∃m,prog.types.size=m+1:=⟨prog.types.size - 1,by have:0<prog.types.size:=of_decide_eq_true kr;omega⟩
theorem te {a b:Int} (wa:(Lit.int .i64 a).wf=true) (wb:(Lit.int .i64 b).wf=true):∃l,keyOf prog 214 (.agg #[.int .i64 a, .int .i64 b])=ai l:=by
 have h1:prog.keyType 214=true:=by kernel_rfl
 have h2:prog.cellsOf 214=2:=by kernel_rfl
 have h3:prog.cellsOf 3=1:=by kernel_rfl
 obtain⟨m,hm⟩:=mj
 have hL:prog.keyLits (m+1+1) 214 [.int .i64 a, .int .i64 b]=ai [.int .i64 a, .int .i64 b]:=by
  unfold Program.keyLits
  simp only[underlying214]
  rw[if_pos ⟨by rw[h2];rfl,by kernel_rfl⟩]
  simp[h3,Program.keyLits,underlying3,wa,wb]
 unfold keyOf
 simp only[underlying214,h1,hm]
 rw[if_pos (by simp[aw.formed,underlying214,h2])]
 exact⟨_,by rw[show(aw.agg #[.int .i64 a, .int .i64 b]).cells.toList=[.int .i64 a, .int .i64 b]from rfl,hL];rfl⟩
theorem lj {a b c:Int} (wa:(Lit.int .i64 a).wf=true) (wb:(Lit.int .i64 b).wf=true) (wc:(Lit.int .i64 c).wf=true):∃l,keyOf prog 264 (.agg #[.int .i64 a, .int .i64 b, .int .i64 c])=ai l:=by
 have h1:prog.keyType 264=true:=by kernel_rfl
 have h2:prog.cellsOf 264=3:=by kernel_rfl
 have h3:prog.cellsOf 3=1:=by kernel_rfl
 obtain⟨m,hm⟩:=mj
 have hL:prog.keyLits (m+1+1) 264 [.int .i64 a, .int .i64 b, .int .i64 c]=ai [.int .i64 a, .int .i64 b, .int .i64 c]:=by
  unfold Program.keyLits
  simp only[underlying264]
  rw[if_pos ⟨by rw[h2];rfl,by kernel_rfl⟩]
  simp[h3,Program.keyLits,underlying3,wa,wb,wc]
 unfold keyOf
 simp only[underlying264,h1,hm]
 rw[if_pos (by simp[aw.formed,underlying264,h2])]
 exact⟨_,by rw[show(aw.agg #[.int .i64 a, .int .i64 b, .int .i64 c]).cells.toList=[.int .i64 a, .int .i64 b, .int .i64 c]from rfl,hL];rfl⟩
theorem jK:Keyed prog 214:=Keyed.of_law (deep_law (m:=3) om kr kr (by rw[underlying214]))
theorem fF:Keyed prog 264:=Keyed.of_law (deep_law (m:=3) om kr kr (by rw[underlying264]))
theorem dY:Keyed prog 9:=string_keyed underlying9
theorem jw (w:aj):(zeroValue 4).run prog w= .ok (.bool false) w:=by kernel_rfl
end
end Go.Proofs.YtbpnallaifdcpaaGreatDoor
namespace Go.Proofs
open Go.Shelf
def Tryz.lays212_ren:Go.Shelf.Ren:=⟨fun|212=>410|263=>488|264=>87|n=>n,fun|46=>270|51=>551|146=>601|53=>190|148=>191|n=>n,fun|n=>n⟩
theorem Tryz.lays212:Go.Proofs.Lays.n212 Tryz.prog Tryz.lays212_ren:={
 mixed:=by kernel_rfl
 f212:=Tryz.func410.trans (congrArg some (by kernel_rfl))
 f263:=Tryz.func488.trans (congrArg some (by kernel_rfl))
 f264:=Tryz.func87.trans (congrArg some (by kernel_rfl))
 t46:=Tryz.underlying270
 a46:=Tryz.isAgg270
 z46:=Tryz.sizeOf270
 v46:=Tryz.zeroValue270
 t51:=Tryz.underlying551
 a51:=Tryz.isAgg551
 z51:=Tryz.sizeOf551
 v51:=Tryz.zeroValue551
 t53:=Tryz.underlying190
 a53:=Tryz.isAgg190
 z53:=Tryz.sizeOf190
 v53:=Tryz.zeroValue190
 t146:=Tryz.underlying601
 a146:=Tryz.isAgg601
 z146:=Tryz.sizeOf601
 v146:=Tryz.zeroValue601
 t148:=Tryz.underlying191
 a148:=Tryz.isAgg191
 z148:=Tryz.sizeOf191
 v148:=Tryz.zeroValue191}
open Go.RowKit Go.Lib in
theorem Tryz.bits_Mul (x y:Nat) (hx:x<18446744073709551616) (hy:y<18446744073709551616) (w:World):
  Calls Tryz.prog 410 #[.int .u64 x, .int .u64 y] w fun e w'=>e= .returned (.tuple #[.int .u64 ((x*y / 18446744073709551616:Nat):Int), .int .u64 ((x*y % 18446744073709551616:Nat):Int)])∧w'=w:=Any.bits_Mul Tryz.lays212 x y hx hy w
end Go.Proofs
