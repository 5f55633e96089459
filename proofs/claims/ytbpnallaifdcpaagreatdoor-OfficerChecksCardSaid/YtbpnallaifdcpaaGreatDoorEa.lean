/- The evaluator: an abstract machine for closed runs. -/
import Derived.Below
import Derived.Defers
import Derived.Laws.Cells
import Derived.Laws.Rows
import Derived.Laws.Sem
import Derived.Laws.World
import Derived.Lib.Join
import Derived.Orders
import GoSem.Step
set_option linter.unusedVariables false
set_option linter.unusedSimpArgs false
open Go
open Option renaming some→F,none→H
open Go.Result renaming andThen_ok→I
open Go.Sem renaming run_bind→J,run_pure→O
open Go renaming Value→N,TypeId→S,Operand→W,Oper→Z,World→aa
open Bool renaming and_eq_true→Q
open Nat renaming eq_of_beq_eq_true→U
namespace Ev
section
inductive AV where
 |top
 |num (n:Int)
 |bool (x:Bool)
 |val (v:N)
 |ptr (i o:Nat)
 |sl (i o len cap:Nat) (x:Bool)
 |nes
 |mp (i:Nat)
 |fn (f:FuncId) (first cap:List AV)
 |yld (l:Nat)
 |ifc (t:S) (v:AV)
 |agg (cs:List AV)
 |tup (cs:List AV)
 deriving Inhabited
inductive Tr (α:Type) where
 |nil
 |node (v:Option α) (l r:Tr α)
noncomputable def Tr.get {α:Type} (t:Tr α):Nat->Option α:=
 @Tr.rec α (λ_=>Nat->Option α) (λ_=>H)
  (λv _ _ gl gr n=>@Nat.rec (λ_=>Option α) v (λm _=>@Bool.rec (λ_=>Option α) (gr (Nat.div m 2)) (gl (Nat.div m 2)) (Nat.beq (Nat.mod m 2) 0)) n) t
noncomputable def Tr.one {α:Type} (k:Nat):Nat->Option α->Tr α:=
 @Nat.rec (λ_=>Nat->Option α->Tr α) (λ_ _=> .nil)
  (λ_ ih n x=>@Nat.rec (λ_=>Tr α) (.node x .nil .nil)
   (λm _=>@Bool.rec (λ_=>Tr α) (.node H .nil (ih (Nat.div m 2) x)) (.node H (ih (Nat.div m 2) x) .nil) (Nat.beq (Nat.mod m 2) 0)) n) k
noncomputable def Tr.put {α:Type} (k:Nat) (t:Tr α):Nat->Option α->Tr α:=
 @Tr.rec α (λ_=>Nat->Option α->Tr α) (Tr.one k)
  (λv l r pl pr n x=>@Nat.rec (λ_=>Tr α) (.node x l r)
   (λm _=>@Bool.rec (λ_=>Tr α) (.node v l (pr (Nat.div m 2) x)) (.node v (pl (Nat.div m 2) x) r) (Nat.beq (Nat.mod m 2) 0)) n) t
def bits:Nat:=40
structure ADef where
 fv:AV
 args:List AV
 coll:Option Nat
inductive AObj where
 |cells (cs:List AV) (elem:S) (ext:Bool)
 |map (es:List (N×AV×Nat)) (clock:Nat)
 |siter (s:ByteArray) (pos:Nat)
 |miter (m:Option Nat) (since:Nat) (seen:List Nat) (stepped:Nat)
 |loop (state:LoopState) (pending:Option Code) (fn:FuncId) (T:Tr AV) (params:List Tmp) (assign body:Code) (defers:Nat)
 |deferred (ds:List ADef)
 |ro (k:Nat) (cs:List AV)
structure APan where
 v:AV
 recovered:Bool
inductive AMode where
 |returning
 |panicking (c:List APan)
structure St where
 h:Tr AObj
 n:Nat
 u:Option AMode
noncomputable def St.upd (s:St) (i:Nat) (o:Option AObj):St:={s with h:=s.h.put bits i o}
noncomputable def St.new (s:St) (o:AObj):St:={s with h:=s.h.put bits s.n (F o),n:=s.n+1}
inductive TK where
 |sc (k:IntKind)
 |ptr (esize:Nat)
 |func
 |struct (fs:List (Nat×Nat×Bool))
 |array (n esize:Nat) (eagg:Bool)
 |slice (elem esize bytes:Nat)
 |iface
 |mapT (k e:S)
 |str
 |other
structure TI where
 k:TK
 size:Nat
 zero:List AV
inductive R (α:Type) where
 |ok (a:α)
 |no (why:Nat)
noncomputable def fz (l:List AV):Nat->Option AV:=
 @List.rec AV (λ_=>Nat->Option AV) (λ_=>H) (λx _ ih n=>@Nat.rec (λ_=>Option AV) (F x) (λm _=>ih m) n) l
noncomputable def cD {α:Type}:Nat->List α->List α
 |0,_=>[]
 |_+1,[]=>[]
 |n+1,x :: xs=>x :: cD n xs
noncomputable def dv {α:Type}:Nat->List α->List α
 |0,xs=>xs
 |_+1,[]=>[]
 |n+1,_ :: xs=>dv n xs
noncomputable def ew:List AV->Nat->List AV->Option (List AV)
 |cs,0,vs=>match vs with
  |[]=>F cs
  |v :: vs=>match cs with
   |[]=>H
   |_ :: cs=>match ew cs 0 vs with
    |some r=>F (v :: r)
    |none=>H
 |[],_+1,vs=>match vs with
  |[]=>F []
  |_=>H
 |c :: cs,n+1,vs=>match ew cs n vs with
  |some r=>F (c :: r)
  |none=>H
noncomputable def ax:AV:= .tup []
noncomputable def AV.cell:AV->Bool
 | .agg _| .tup _| .top=>false
 | .val v=>match v with| .agg _| .tuple _=>false|_=>true
 |_=>true
noncomputable def lf (v:N):Bool:=
 match v with
 | .agg _=>false
 | .tuple _=>false
 |_=>true
noncomputable def AV.cells (v:AV):Option (List AV):=
 match v with
 | .agg cs=>F cs
 | .top=>H
 | .tup _=>H
 | .val w=>match lf w with
  |true=>F [.val w]
  |false=>H
 | .num n=>F [.num n]| .bool b=>F [.bool b]| .ptr i o=>F [.ptr i o]| .sl i o l c x=>F [.sl i o l c x]| .nes=>F [.nes]| .mp i=>F [.mp i]
 | .fn f a c=>F [.fn f a c]| .yld l=>F [.yld l]| .ifc t v=>F [.ifc t v]
noncomputable def i6 (k:IntKind) (n:Int):AV:=
 match k with
 | .i64=> .num n
 | .i8=> .val (.int .i8 n)| .i16=> .val (.int .i16 n)| .i32=> .val (.int .i32 n)
 | .u8=> .val (.int .u8 n)| .u16=> .val (.int .u16 n)| .u32=> .val (.int .u32 n)| .u64=> .val (.int .u64 n)
noncomputable def lz (v:N):AV:=
 match v with
 | .int k n=>i6 k n
 | .bool b=> .bool b
 | .float k b=> .val (.float k b)| .complex k a b=> .val (.complex k a b)| .string s=> .val (.string s)| .pointer a=> .val (.pointer a)
 | .slice a l c=> .val (.slice a l c)| .map r=> .val (.map r)| .chan r=> .val (.chan r)| .func f a c=> .val (.func f a c)| .nilFunc=> .val .nilFunc
 | .iface t v=> .val (.iface t v)| .nilIface=> .val .nilIface| .agg c=> .val (.agg c)| .tuple c=> .val (.tuple c)
noncomputable def cR (v:N):AV:=
 match v with
 | .int k n=>i6 k n
 | .bool b=> .bool b
 | .agg cs=> .agg (cs.toList.map lz)
 | .float k b=> .val (.float k b)| .complex k a b=> .val (.complex k a b)| .string s=> .val (.string s)| .pointer a=> .val (.pointer a)
 | .slice a l c=> .val (.slice a l c)| .map r=> .val (.map r)| .chan r=> .val (.chan r)| .func f a c=> .val (.func f a c)| .nilFunc=> .val .nilFunc
 | .iface t v=> .val (.iface t v)| .nilIface=> .val .nilIface| .tuple c=> .val (.tuple c)
mutual
noncomputable def AV.toVal:AV->Option N
 | .val v=>F v
 | .num n=>F (.int .i64 n)
 | .bool b=>F (.bool b)
 | .ifc t v=>match v.toVal with|some x=>F (.iface t x)|none=>H
 | .agg cs=>match AV.toVals cs with|some xs=>F (.agg ⟨xs⟩)|none=>H
 | .tup cs=>match AV.toVals cs with|some xs=>F (.tuple ⟨xs⟩)|none=>H
 |_=>H
noncomputable def AV.toVals:List AV->Option (List N)
 |[]=>F []
 |c :: cs=>match c.toVal,AV.toVals cs with
  |some x,F xs=>F (x :: xs)
  |_,_=>H
end
noncomputable def kQ:N->AV
 | .tuple cs=> .tup (cs.toList.map cR)
 |v=>cR v
noncomputable def ay (P:Program) {α:Type}:Sem α->Option α
 | .pure a=>F a
 | .program k=>ay P (k P)
 | .mark _ k=>ay P k
 |_=>H
noncomputable def gb (o:Option AV):AV:=@Option.rec AV (λ_=>AV) .top (λv=>v) o
noncomputable def V (T:Tr AV) (x:W):AV:=
 @W.rec (λ_=>Tr AV->AV) (λt T=>gb (Tr.get T t)) (λv _=>cR v) (λg _=> .ptr g 0) (λf _=> .val (.func (.func f) #[] #[])) x T
noncomputable def aB (T:Tr AV) (d:Option Tmp) (v:AV):Tr AV:=
 @Option.rec Tmp (λ_=>Tr AV->AV->Tr AV) (λT _=>T) (λt T v=>Tr.put bits T t (F v)) d T v
inductive Res where
 |val (v:AV) (s:St)
 |skip (s:St)
 |enter (f:FuncId) (args:List AV) (s:St)
 |round (l:Nat) (args:List AV)
 |defer (d:ADef)
 |recover
 |panic (v:AV) (s:St)
 |no (why:Nat)
structure Env where mk ::
 P:Program
 ty:Nat->Option TI
 fn:Nat->Option Func
 plug:Nat->Option (List AV->St->Option (AV×St))
 gh:Nat->Obj
noncomputable def aA (s:St) (i o n:Nat):Option (List AV):=
 match s.h.get i with
 |some (.cells cs _ _)=>
  let r:=cD n (dv o cs)
  if r.length=n then F r else H
 |_=>H
noncomputable def cN (r:Option (List AV)):Option AV:=
 match r with
 |some cs=>F (.agg cs)
 |none=>H
noncomputable def a8 (o:Nat) (r:Option AObj):Option AV:=
 match r with
 |some ob=>match ob with
  | .cells cs _ _=>fz cs o
  | .ro _ cs=>fz cs o
  | .map ..=>H| .siter ..=>H| .miter ..=>H| .loop ..=>H| .deferred _=>H
 |none=>H
noncomputable def jb (s:St) (i o size:Nat) (k:TK):Option AV:=
 match k with
 | .struct _=>cN (aA s i o size)
 | .array ..=>cN (aA s i o size)
 | .sc _=>a8 o (s.h.get i)
 | .ptr _=>a8 o (s.h.get i)
 | .func=>a8 o (s.h.get i)
 | .slice ..=>a8 o (s.h.get i)
 | .iface=>a8 o (s.h.get i)
 | .mapT ..=>a8 o (s.h.get i)
 | .str=>a8 o (s.h.get i)
 | .other=>a8 o (s.h.get i)
noncomputable def gx (E:Env) (t:S) (i o:Nat) (s:St):Option AV:=
 match E.ty t with
 |none=>H
 |some ti=>jb s i o ti.size ti.k
noncomputable def e9 (E:Env) (t:S) (a:AV) (s:St):Option AV:=
 match a with
 | .ptr i o=>gx E t i o s
 |_=>H
noncomputable def dc (s:St) (i o:Nat) (vs:List AV):Option St:=
 match vs with
 |[]=>F s
 |v :: vs=>match List.all (v :: vs) AV.cell with
  |true=>match s.h.get i with
   |some (.cells cs e x)=>match ew cs o (v :: vs)with
    |some cs=>F (s.upd i (F (.cells cs e x)))
    |none=>H
   |_=>H
  |false=>H
noncomputable def iX (E:Env) (t:S) (a v:AV) (s:St):Option St:=
 match a with
 | .ptr i o=>match E.ty t with
  |some ti=>match v.cells with
   |some cs=>match Nat.beq cs.length ti.size with
    |true=>dc s i o cs
    |false=>H
   |none=>H
  |none=>H
 |_=>H
noncomputable def dl (place:Nat->Option (Nat×Nat)) (cells:List AV):List (Nat×AV)->Option (List AV)
 |[]=>F cells
 |p :: rest=>
  match place p.1 with
  |none=>H
  |some os=>
   match p.2.cells with
   |some vs=>match Nat.beq vs.length os.2 with
    |true=>match vs with
     |[]=>H
     |v :: vs=>match ew cells os.1 (v :: vs)with
      |some cells=>dl place cells rest
      |none=>H
    |false=>H
   |none=>H
noncomputable def cb (fs:List (Nat×Nat×Bool)) (i:Nat):Option (Nat×Nat):=
 match fs,i with
 |[],_=>H
 |(o,s,_) :: fs,i=>match i with
  |0=>F (o,s)
  |i+1=>cb fs i
noncomputable def cz (fs:List (Nat×Nat×Bool)) (i:Nat):Option (Nat×Nat×Bool):=
 match fs,i with
 |[],_=>H
 |f :: fs,i=>match i with
  |0=>F f
  |i+1=>cz fs i
noncomputable def j0 (E:Env) (t:S) (parts:List (Nat×AV)):Option AV:=
 match E.ty t with
 |some ti=>match ti.k with
  | .struct fs=>(dl (cb fs) ti.zero parts).map .agg
  | .array _ es _=>(dl (λi=>F (i*es,es)) ti.zero parts).map .agg
  |_=>H
 |none=>H
noncomputable def bv (zero:List AV):Nat->List AV
 |0=>[]
 |n+1=>zero++bv zero n
noncomputable def aV (E:Env) (t:S) (len:Nat) (parts:List (Nat×AV)):Option (List AV×S):=
 match E.ty t with
 |some ti=>match ti.k with
  | .slice elem es _=>
   if len*es>2 ^ 24 then H else
   match E.ty elem with
   |some te=>match dl (λi=>F (i*es,es)) (bv te.zero len) parts with
    |some cs=>F (cs,elem)
    |none=>H
   |none=>H
  |_=>H
 |none=>H
noncomputable def bq:AV->Option Int
 | .num n=>F n
 | .val (.int _ n)=>F n
 |_=>H
noncomputable def fj (E:Env) (t:S) (x ix:AV):Option AV:=
 match bq ix,E.ty t with
 |some i,F ti=>match ti.k,x with
  | .array n es _, .ptr b o=>if 0<=i/\i<n then F (.ptr b (o+i.toNat*es))else H
  | .slice _ es _, .sl b o len _ _=>if 0<=i/\i<len then F (.ptr b (o+i.toNat*es))else H
  |_,_=>H
 |_,_=>H
noncomputable def am (o:Option AV) (d:Nat):Option Nat:=
 match o with
 |none=>F d
 |some v=>match bq v with
  |some i=>if 0<=i then F i.toNat else H
  |none=>H
noncomputable def dp (s:St) (i:Nat):Option Bool:=
 match s.h.get i with
 |some (.cells _ _ x)=>F x
 |_=>H
noncomputable def ka (E:Env) (t:S) (x:AV) (lo hi mx:Option AV):Option AV:=
 match E.ty t with
 |some ti=>match ti.k,x with
  | .array n es _, .ptr b o=>
   match am mx n with
   |some m=>match am hi n with
    |some h=>match am lo 0 with
     |some l=>if l<=h/\h<=m/\m<=n/\(mx.isSome->hi.isSome)then F (.sl b (if m=l then o else o+l*es) (h - l) (m - l) false)else H
     |none=>H
    |none=>H
   |none=>H
  | .slice _ es _, .sl b o len cap x=>
   match am mx cap with
   |some m=>match am hi len with
    |some h=>match am lo 0 with
     |some l=>if l<=h/\h<=m/\m<=cap/\(mx.isSome->hi.isSome)then
       match x&&mx.isNone with
       |true=>if l=cap/\l≠0 then F .nes else F (.sl b (o+l*es) (h - l) (m - l) true)
       |false=>F (.sl b (if m=l then o else o+l*es) (h - l) (m - l) false)
      else H
     |none=>H
    |none=>H
   |none=>H
  | .slice _ _ _, .nes=>
   match am mx 0,am hi 0,am lo 0 with
   |some 0,F 0,F 0=>if mx.isSome then H else F .nes
   |_,_,_=>H
  | .slice _ _ _, .val (.slice H 0 0)=>
   match am mx 0,am hi 0,am lo 0 with
   |some 0,F 0,F 0=>if mx.isSome&&hi.isNone then H else F (.val (.slice H 0 0))
   |_,_,_=>H
  |_,_=>H
 |none=>H
noncomputable def aL (s:St) (es n:Nat):AV->Option (List AV)
 | .sl i o _ _ _=>match n*es with
  |0=>F []
  |k=>aA s i o k
 | .val (.slice H _ _)=>F []
 | .nes=>F []
 | .val (.string b)=>F ((cD n b.data.toList).map λx=> .val (.int .u8 x.toNat))
 |_=>H
noncomputable def c5:AV->Option Nat
 | .sl _ _ l _ _=>F l
 | .nes=>F 0
 | .val (.slice H l _)=>F l
 | .val (.string b)=>F b.size
 |_=>H
noncomputable def gm (E:Env) (t:S) (x y:AV) (s:St):Option (AV×St):=
 match E.ty t,c5 y with
 |some ti,F n=>match ti.k with
  | .slice elem es bytes=>
   match E.ty elem,aL s es n y with
   |none,_=>H
   |_,H=>H
   |some _,F new=>
    match x with
    | .sl b o len cap xt=>
     if len+n<=cap then
      match dc s b (o+len*es) new with
      |some s=>F (.sl b o (len+n) cap xt,s)
      |none=>H
     else
      match s.h.get b with
      |some (.cells cs el _)=>
       if((len+n)*4+4096)*bytes<=2 ^ 48/\len+n<=2 ^ 48 then
       match aL s es len x with
       |none=>H
       |some old=>
        if xt then
         if o=0/\cs.length=cap*es/\el=elem/\new.length=n*es/\new.all AV.cell=true then
          F (.sl s.n 0 (len+n) (len+n) true,(s.upd b H).new (.cells (old++new) elem true))
         else H
        else F (.sl s.n 0 (len+n) (len+n) true,s.new (.cells (old++new) elem true))
       else H
      |_=>H
    | .val (.slice H 0 0)=>
     match n with
     |0=>F (x,s)
     |_=>if(n*4+4096)*bytes<=2 ^ 48/\n<=2 ^ 48 then F (.sl s.n 0 n n true,s.new (.cells new elem true))else H
    |_=>H
  |_=>H
 |_,_=>H
noncomputable def eN (E:Env) (t:S) (x:AV) (n:Nat) (s:St):Option (AV×St):=
 match E.ty t,x with
 |some ti, .val (.slice H 0 0)=>match ti.k with
  | .slice elem _ bytes=>match n with
   |0=>F (x,s)
   |_=>match E.ty elem with
    |some te=>if(n*4+4096)*bytes<=2 ^ 40/\n<2 ^ 40 then F (.sl s.n 0 n n true,s.new (.cells (bv te.zero n) elem true))else H
    |none=>H
  |_=>H
 |_,_=>H
noncomputable def j9 (E:Env) (t:S) (x y:AV) (s:St):Option (Nat×St):=
 match E.ty t,c5 x,c5 y with
 |some ti,F d,F l=>match ti.k with
  | .slice _ es _=>
   let n:=Nat.min l d
   match aL s es n y with
   |some cs=>match x with
    | .sl b o _ _ _=>match dc s b o cs with
     |some s=>F (n,s)
     |none=>H
    | .nes=>match cs with
     |[]=>F (n,s)
     |_=>H
    | .val (.slice H _ _)=>F (n,s)
    |_=>H
   |none=>H
  |_=>H
 |_,_,_=>H
noncomputable def bI (E:Env) (t:S) (l c:AV) (s:St):Option (AV×St):=
 match E.ty t,bq l,bq c with
 |some ti,F l,F c=>match ti.k with
  | .slice elem _ bytes=>
   if 0<=l/\l<=c/\c*bytes<=2 ^ 40/\c<2 ^ 40 then
    match E.ty elem with
    |some te=>F (.sl s.n 0 l.toNat c.toNat false,s.new (.cells (bv te.zero c.toNat) elem false))
    |none=>H
   else H
  |_=>H
 |_,_,_=>H
noncomputable def ie (T:Tr AV) (x:W):N:=
 match (V T x).toVal with
 |some v=>v
 |none=> .chan (F 0)
noncomputable def ak (E:Env) (o:Z) (T:Tr AV) (s:St):Res:=
 if o.op.operands.all (λx=>(V T x).toVal.isSome)then
  match ay E.P (execOp (ie T) o)with
  |some (.value v)=> .val (kQ v) s
  |some .skip=> .skip s
  |_=> .no 1
 else .no 2
noncomputable def dR (s:St) (i o j p:Nat):Option Bool:=
 match Nat.beq i j with
 |true=>F (Nat.beq o p)
 |false=>match dp s i with
  |some false=>match dp s j with
   |some false=>F false
   |_=>H
  |_=>H
noncomputable def fy (k:TK) (x y:AV) (s:St):Option Bool:=
 match k with
 | .ptr es=>match x,y with
  | .ptr i o, .ptr j p=>match Nat.beq es 0 with
   |true=>H
   |false=>dR s i o j p
  | .ptr .., .val (.pointer H)=>F false
  | .val (.pointer H), .ptr ..=>F false
  |_,_=>H
 | .slice ..=>match x,y with
  | .sl .., .val (.slice H _ _)=>F false
  | .val (.slice H _ _), .sl ..=>F false
  | .nes, .val (.slice H _ _)=>F false
  | .val (.slice H _ _), .nes=>F false
  |_,_=>H
 | .mapT ..=>match x,y with
  | .mp _, .val (.map H)=>F false
  | .val (.map H), .mp _=>F false
  |_,_=>H
 | .func=>match x,y with
  | .fn .., .val .nilFunc=>F false
  | .val .nilFunc, .fn ..=>F false
  | .yld _, .val .nilFunc=>F false
  | .val .nilFunc, .yld _=>F false
  |_,_=>H
 | .iface=>match x,y with
  | .ifc .., .val .nilIface=>F false
  | .val .nilIface, .ifc ..=>F false
  | .ifc t _, .ifc u _=>match Nat.beq t u with
   |true=>H
   |false=>F false
  |_,_=>H
 |_=>H
noncomputable def kE (E:Env) (t:S) (x y:AV) (s:St):Option Bool:=
 match E.ty t with
 |some ti=>fy ti.k x y s
 |none=>H
noncomputable def bM (n:Int):Int:=
 @Int.rec (λ_=>Int) (λm=>@Bool.rec (λ_=>Int) (IntKind.i64.wrap (Int.ofNat m)) (Int.ofNat m) (Nat.blt m 9223372036854775808))
  (λm=>@Bool.rec (λ_=>Int) (IntKind.i64.wrap (Int.negSucc m)) (Int.negSucc m) (Nat.blt m 9223372036854775808)) n
noncomputable def iF (a b:Int):Bool:=
 @Int.rec (λ_=>Int->Bool) (λx b=>@Int.rec (λ_=>Nat->Bool) (λy x=>Nat.blt x y) (λ_ _=>false) b x)
  (λx b=>@Int.rec (λ_=>Nat->Bool) (λ_ _=>true) (λy x=>Nat.blt y x) b x) a b
noncomputable def eo (a b:Int):Bool:=
 @Int.rec (λ_=>Int->Bool) (λx b=>@Int.rec (λ_=>Nat->Bool) (λy x=>Nat.beq x y) (λ_ _=>false) b x)
  (λx b=>@Int.rec (λ_=>Nat->Bool) (λ_ _=>false) (λy x=>Nat.beq x y) b x) a b
noncomputable def lu (a b:Int):AV:=@Bool.rec (λ_=>AV) (.num (bM (Int.tdiv a b))) .top (eo b 0)
noncomputable def ly (a b:Int):AV:=@Bool.rec (λ_=>AV) (.num (Int.tmod a b)) .top (eo b 0)
noncomputable def dU (op:BinOp):Int->Int->AV:=
 @BinOp.rec (λ_=>Int->Int->AV) (λa b=> .num (bM (Int.add a b))) (λa b=> .num (bM (Int.sub a b))) (λa b=> .num (bM (Int.mul a b)))
  lu ly (λ_ _=> .top) (λ_ _=> .top) (λ_ _=> .top) (λ_ _=> .top) (λ_ _=> .top) (λ_ _=> .top)
  (λa b=> .bool (eo a b)) (λa b=> .bool (!(eo a b))) (λa b=> .bool (iF a b)) (λa b=> .bool (!(iF b a))) (λa b=> .bool (iF b a)) (λa b=> .bool (!(iF a b))) op
noncomputable def aF (E:Env) (o:Z) (op:BinOp) (xt:S) (u v:AV) (T:Tr AV) (s:St):Res:=
 match op with
 | .eql=>match kE E xt u v s with
  |some b=> .val (.bool b) s
  |none=>ak E o T s
 | .neq=>match kE E xt u v s with
  |some b=> .val (.bool !b) s
  |none=>ak E o T s
 |_=>ak E o T s
abbrev lk:=Env->Z->Tr AV->St->Res
noncomputable def a4 (E:Env) (o:Z) (T:Tr AV) (s:St) (r:AV):Res:=
 @AV.casesOn (λ_=>lk) r (λE o T s=>ak E o T s) (λn _ _ _ s=> .val (.num n) s) (λb _ _ _ s=> .val (.bool b) s) (λ_ _ _ _ _=> .no 90) (λ_ _ _ _ _ _=> .no 90)
  (λ_ _ _ _ _ _ _ _ _=> .no 90) (λ_ _ _ _=> .no 90) (λ_ _ _ _ _=> .no 90) (λ_ _ _ _ _ _ _=> .no 90) (λ_ _ _ _ _=> .no 90) (λ_ _ _ _ _ _=> .no 90) (λ_ _ _ _ _=> .no 90) (λ_ _ _ _ _=> .no 90) E o T s
abbrev k6:=Env->Z->BinOp->Int->Tr AV->St->Res
noncomputable def dI (E:Env) (o:Z) (op:BinOp) (a:Int) (v:AV) (T:Tr AV) (s:St):Res:=
 @AV.casesOn (λ_=>k6) v (λ_ _ _ _ _ _=> .no 91) (λb E o op a T s=>a4 E o T s (dU op a b)) (λ_ _ _ _ _ _ _=> .no 91) (λ_ E o _ _ T s=>ak E o T s) (λ_ _ _ _ _ _ _ _=> .no 91)
  (λ_ _ _ _ _ _ _ _ _ _ _=> .no 91) (λ_ _ _ _ _ _=> .no 91) (λ_ _ _ _ _ _ _=> .no 91) (λ_ _ _ _ _ _ _ _ _=> .no 91) (λ_ _ _ _ _ _ _=> .no 91) (λ_ _ _ _ _ _ _ _=> .no 91) (λ_ _ _ _ _ _ _=> .no 91) (λ_ _ _ _ _ _ _=> .no 91) E o op a T s
abbrev k5:=Env->Z->BinOp->S->AV->Tr AV->St->Res
noncomputable def j7 (E:Env) (o:Z) (op:BinOp) (xt:S) (u v:AV) (T:Tr AV) (s:St):Res:=
 @AV.casesOn (λ_=>k5) u (λ_ _ _ _ _ _ _=> .no 92) (λa E o op _ v T s=>dI E o op a v T s) (λx E o op xt v T s=>aF E o op xt (.bool x) v T s) (λx E o op xt v T s=>aF E o op xt (.val x) v T s)
  (λi p E o op xt v T s=>aF E o op xt (.ptr i p) v T s) (λi p l c x E o op xt v T s=>aF E o op xt (.sl i p l c x) v T s) (λE o op xt v T s=>aF E o op xt .nes v T s) (λi E o op xt v T s=>aF E o op xt (.mp i) v T s)
  (λf a c E o op xt v T s=>aF E o op xt (.fn f a c) v T s) (λl E o op xt v T s=>aF E o op xt (.yld l) v T s) (λt w E o op xt v T s=>aF E o op xt (.ifc t w) v T s) (λcs E o op xt v T s=>aF E o op xt (.agg cs) v T s)
  (λcs E o op xt v T s=>aF E o op xt (.tup cs) v T s) E o op xt v T s
noncomputable def dk (E:Env) (o:Z) (f:FuncId) (args:List AV) (s:St) (T:Tr AV):Res:=
 match E.fn f with
 |some fn=>match fn.body with
  |some _=> .enter f args s
  |none=>ak E o T s
 |none=> .no 3
noncomputable def c6 (E:Env) (o:Z) (fv:AV) (args:List AV) (s:St) (T:Tr AV):Res:=
 match fv with
 | .val (.func (.func f) ⟨[]⟩ ⟨[]⟩)=>dk E o f args s T
 | .fn f first cap=>dk E o f (first++args++cap) s T
 | .yld l=> .round l args
 |_=> .no 4
noncomputable def ku (k:TK) (x:AV) (s:St):Option Nat:=
 match k with
 | .slice ..=>match x with
  | .sl _ _ l _ _=>F l
  | .nes=>F 0
  |_=>H
 | .mapT ..=>match x with
  | .mp i=>match s.h.get i with
   |some (.map es _)=>F es.length
   |_=>H
  |_=>H
 |_=>H
noncomputable def iA (E:Env) (t:S) (x:AV) (s:St):Option Nat:=
 match E.ty t with
 |some ti=>ku ti.k x s
 |none=>H
noncomputable def ju (es:List (N×AV×Nat)) (i:Nat):Option (N×AV×Nat):=
 match es,i with
 |[],_=>H
 |e :: es,i=>match i with
  |0=>F e
  |i+1=>ju es i
noncomputable def fW (E:Env) (emp:Bool) (kt:S) (k:N) (es:List (N×AV×Nat)):Option (Option (Nat×N×AV×Nat)):=
 match ay E.P (do Instr.checkKey emp 10000 kt k;Instr.findKey kt k (es.map λe=>⟨e.1, .tuple #[],0⟩))with
 |some H=>F H
 |some (F p)=>match ju es p.1 with
  |some e=>F (F (p.1,e))
  |none=>H
 |none=>H
noncomputable def fq (es:List (N×AV×Nat)) (i:Nat) (f:N×AV×Nat->N×AV×Nat):List (N×AV×Nat):=
 match es,i with
 |[],_=>[]
 |e :: es,i=>match i with
  |0=>f e :: es
  |i+1=>e :: fq es i f
noncomputable def dT (es:List (N×AV×Nat)) (b:Nat):Option Nat:=
 match es with
 |[]=>H
 |e :: es=>if e.2.2=b then F 0 else(dT es b).map (·+1)
noncomputable def d4 (te:TI):AV:=match te.k with| .struct _| .array ..=>AV.agg te.zero|_=>(te.zero.head?).getD ax
noncomputable def bZ (E:Env) (o:Z) (T:Tr AV) (s:St) (t:S) (r:Option W):Res:=
 match r with
 |none=> .val (.mp s.n) (s.new (.map [] 0))
 |some x=>match E.ty t,bq (V T x)with
  |some ti,F _=>match ti.k with
   | .mapT ..=> .val (.mp s.n) (s.new (.map [] 0))
   |_=> .no 20
  |_,_=> .no 20
noncomputable def ft (E:Env) (kt:S) (kv:N) (x:AV) (s:St):Option (Option (Nat×N×AV×Nat)):=
 match x with
 | .val (.map H)=>fW E true kt kv []
 | .mp i=>match s.h.get i with
  |some (.map es _)=>fW E es.isEmpty kt kv es
  |_=>H
 |_=>H
noncomputable def bJ (E:Env) (o:Z) (T:Tr AV) (s:St) (t:S) (x k:W) (ok:Bool):Res:=
 match E.ty t with
 |some ti=>match ti.k with
  | .mapT kt et=>match (V T k).toVal with
   |some kv=>match ft E kt kv (V T x) s,E.ty et with
    |some (F (_,_,v,_)),_=> .val (if ok then .tup [v, .bool true]else v) s
    |some H,F te=> .val (if ok then .tup [d4 te, .bool false]else d4 te) s
    |_,_=> .no 21
   |none=> .no 23
  |_=> .no 24
 |none=> .no 25
noncomputable def bh (E:Env) (o:Z) (T:Tr AV) (s:St) (t:S) (m k v:W):Res:=
 match E.ty t with
 |some ti=>match ti.k with
  | .mapT kt _=>match (V T k).toVal,V T m with
   |some kv, .mp i=>match s.h.get i with
    |some (.map es c)=>match fW E false kt kv es with
     |some (F (j,k',_))=>match Instr.sameBits 10000 k' kv with
      |true=> .skip (s.upd i (F (.map (fq es j λe=>(kv,V T v,e.2.2)) c)))
      |false=> .no 26
     |some H=> .skip (s.upd i (F (.map (es++[(kv,V T v,c)]) (c+1))))
     |none=> .no 26
    |_=> .no 27
   |_,_=> .no 29
  |_=> .no 30
 |none=> .no 31
noncomputable def bK (E:Env) (o:Z) (T:Tr AV) (s:St) (t:S) (m k:W):Res:=
 match E.ty t with
 |some ti=>match ti.k with
  | .mapT kt et=>match (V T k).toVal,V T m with
   |some kv, .mp i=>match s.h.get i with
    |some (.map es c)=>match fW E false kt kv es,E.ty et with
     |some (F (j,k',v,b)),_=>match Instr.sameBits 10000 k' kv with
      |true=> .val (.tup [v, .num b]) (s.upd i (F (.map (fq es j λe=>(kv,e.2.1,e.2.2)) c)))
      |false=> .no 32
     |some H,F te=> .val (.tup [d4 te, .num c]) (s.upd i (F (.map (es++[(kv,d4 te,c)]) (c+1))))
     |_,_=> .no 32
    |_=> .no 33
   |_,_=> .no 35
  |_=> .no 36
 |none=> .no 37
noncomputable def aZ (E:Env) (o:Z) (T:Tr AV) (s:St) (m st v:W):Res:=
 match V T m,bq (V T st)with
 | .mp i,F b=>match s.h.get i with
  |some (.map es c)=>if 0<=b then match dT es b.toNat with
    |some j=> .skip (s.upd i (F (.map (fq es j λe=>(e.1,V T v,e.2.2)) c)))
    |none=> .no 38
   else .no 38
  |_=> .no 39
 |_,_=> .no 40
noncomputable def dN (E:Env) (o:Z) (T:Tr AV) (s:St) (t:S) (x:W):Res:=
 match E.ty t with
 |some ti=>match ti.k,V T x with
  | .str, .val (.string b)=> .val (.ptr s.n 0) (s.new (.siter b 0))
  | .mapT .., .val (.map H)=> .val (.ptr s.n 0) (s.new (.miter H 0 [] 0))
  | .mapT .., .mp i=>match s.h.get i with
   |some (.map _ c)=> .val (.ptr s.n 0) (s.new (.miter (F i) c [] c))
   |_=> .no 41
  |_,_=> .no 42
 |none=> .no 43
noncomputable def jf (s:St) (r m since:Nat) (seen:List Nat) (last:Nat) (es:List (N×AV×Nat)) (c:Nat):Res:=
 if !seen.isEmpty&&!es.isEmpty&&es.all (λe=>decide (e.2.2>=last))then .no 44 else
 match es.filter (λe=>!seen.contains e.2.2)with
 |[]=> .val (.tup [.bool false]) s
 |[e]=>if e.2.2<since then .val (.tup [.bool true,cR e.1,e.2.1]) (s.upd r (F (.miter (F m) since (seen++[e.2.2]) c)))else .no 45
 |_=> .no 46
noncomputable def fe (E:Env) (o:Z) (T:Tr AV) (s:St) (x:W) (isS:Bool):Res:=
 match V T x with
 | .ptr r 0=>match s.h.get r,isS with
  |some (.siter b pos),true=>
   if pos<b.size then
    .val (.tup [.bool true, .num pos, .val (.int .i32 (Utf8.decode b pos).1)]) (s.upd r (F (.siter b (pos+(Utf8.decode b pos).2))))
   else .val (.tup [.bool false]) s
  |some (.miter H _ _ _),false=> .val (.tup [.bool false]) s
  |some (.miter (F m) since seen last),false=>
   match s.h.get m with
   |some (.map es c)=>jf s r m since seen last es c
   |_=> .no 47
  |_,_=> .no 48
 |_=> .no 49
noncomputable def dH (E:Env) (o:Z) (T:Tr AV) (s:St) (x:W):Res:=
 match V T x with
 | .ptr r 0=>match s.h.get r with
  |some (.miter (F m) _ seen stepped)=>match seen.getLast?,s.h.get m with
   |some b,F (.map es c)=>if c=stepped then match es.find? (λe=>e.2.2==b)with
     |some e=> .val (.tup [cR e.1,e.2.1]) s
     |none=> .no 50
    else .no 51
   |_,_=> .no 52
  |_=> .no 53
 |_=> .no 54
noncomputable def c9 (E:Env) (o:Z) (T:Tr AV) (s:St) (x:W):Res:=
 .val (V T x) s
noncomputable def dX (E:Env) (o:Z) (T:Tr AV) (s:St) (c a b:W):Res:=
 match V T c with
  | .bool c=> .val (cond c (V T a) (V T b)) s
  |_=> .no 5
noncomputable def c7 (E:Env) (o:Z) (T:Tr AV) (s:St) (t:S) (a:W):Res:=
 match e9 E t (V T a) s with
  |some v=> .val v s
  |none=> .no 6
noncomputable def dy (E:Env) (o:Z) (T:Tr AV) (s:St) (t:S) (a v:W):Res:=
 match iX E t (V T a) (V T v) s with
  |some s=> .skip s
  |none=> .no 7
noncomputable def aX (E:Env) (o:Z) (T:Tr AV) (s:St) (st:S) (x:W) (f:Nat):Res:=
 match E.ty st,V T x with
  |some ti, .ptr i off=>match ti.k with
   | .struct fs=>match cb fs f with
    |some (fo,sz)=>if sz=0 then .no 8 else .val (.ptr i (off+fo)) s
    |none=> .no 8
   |_=> .no 8
  |_,_=> .no 8
noncomputable def bP (E:Env) (o:Z) (T:Tr AV) (s:St) (op:BinOp) (xt:S) (x y:W) (yt:S):Res:=
 j7 E o op xt (V T x) (V T y) T s
noncomputable def cV (E:Env) (o:Z) (T:Tr AV) (s:St) (t:S):Res:=
 match E.ty t with
  |some ti=> .val (.ptr s.n 0) (s.new (.cells ti.zero t false))
  |none=> .no 9
noncomputable def eF (E:Env) (o:Z) (T:Tr AV) (s:St) (t:S) (x:W):Res:=
 match (V T x).cells with
 |some cs=> .val (.ptr s.n 0) (s.new (.cells cs t false))
 |none=> .no 94
noncomputable def aY (E:Env) (o:Z) (T:Tr AV) (s:St) (t:S) (x ix:W):Res:=
 match fj E t (V T x) (V T ix)with
  |some v=> .val v s
  |none=> .no 10
noncomputable def cO (E:Env) (o:Z) (T:Tr AV) (s:St) (t:S) (parts:Array (Nat×W)):Res:=
 match j0 E t (parts.toList.map λ(i,x)=>(i,V T x))with
  |some v=> .val v s
  |none=> .no 11
noncomputable def aC (E:Env) (o:Z) (T:Tr AV) (s:St) (t:S) (len:Nat) (parts:Array (Nat×W)):Res:=
 match aV E t len (parts.toList.map λ(i,x)=>(i,V T x))with
  |some (cs,e)=> .val (.sl s.n 0 len len false) (s.new (.cells cs e false))
  |none=> .no 12
noncomputable def bf (E:Env) (o:Z) (T:Tr AV) (s:St) (x:W):Res:=
 match V T x with
  | .ptr i off=> .val (.ptr i off) s
  | .fn f a c=> .val (.fn f a c) s
  | .yld l=> .val (.yld l) s
  | .val (.func (.func f) a c)=> .val (.val (.func (.func f) a c)) s
  |_=> .no 13
noncomputable def bz (E:Env) (o:Z) (T:Tr AV) (s:St) (t:W) (ix:Nat):Res:=
 match V T t with
  | .tup vs=>match fz vs ix with
   |some v=> .val v s
   |none=> .no 14
  |_=> .no 14
noncomputable def cP (E:Env) (o:Z) (T:Tr AV) (s:St) (xt:S) (x:W) (f:Nat):Res:=
 match E.ty xt,V T x with
  |some ti, .agg cs=>match ti.k with
   | .struct fs=>match cz fs f with
    |some (fo,sz,true)=>
     let r:=cD sz (dv fo cs)
     if r.length=sz then .val (.agg r) s else .no 15
    |some (fo,_,false)=>match fz cs fo with
     |some v=> .val v s
     |none=> .no 15
    |none=> .no 15
   |_=> .no 15
  |_,_=> .no 15
noncomputable def cU (E:Env) (o:Z) (T:Tr AV) (s:St) (xt:S) (x ix:W):Res:=
 match V T x with
  | .agg cs=>match E.ty xt,bq (V T ix)with
   |some ti,F i=>match ti.k with
    | .array n es ea=>if 0<=i/\i<n then
      if ea then
       let r:=cD es (dv (i.toNat*es) cs)
       if r.length=es then .val (.agg r) s else .no 16
      else match fz cs (i.toNat*es)with
       |some v=> .val v s
       |none=> .no 16
     else .no 16
    |_=> .no 16
   |_,_=> .no 16
  |_=>ak E o T s
noncomputable def bc (E:Env) (o:Z) (T:Tr AV) (s:St) (f:Fn) (first cap:Array W):Res:=
 match f with
  | .func f=> .val (.fn f (first.toList.map (V T)) (cap.toList.map (V T))) s
  |_=> .no 17
noncomputable def ap (E:Env) (o:Z) (T:Tr AV) (s:St) (t:S) (x:W):Res:=
 match E.ty t with
  |some ti=>match ti.k with
   | .iface=> .no 18
   |_=> .val (.ifc t (V T x)) s
  |none=> .no 18
noncomputable def aN (E:Env) (o:Z) (T:Tr AV) (s:St) (x:W) (xt t:S) (ok:Bool):Res:=
 match V T x with
  | .ifc u v=>match E.ty t with
   |some ti=>match ti.k with
    | .iface=>ak E o T s
    |_=>if u=t then .val (if ok then .tup [v, .bool true]else v) s
     else if ok then .val (.tup [match ti.k with| .struct _| .array ..=> .agg ti.zero|_=>(ti.zero.head?).getD ax, .bool false]) s
     else .no 19
   |none=> .no 19
  |_=>ak E o T s
noncomputable def aI (E:Env) (o:Z) (T:Tr AV) (s:St) (t:S) (l c:W):Res:=
 match bI E t (V T l) (V T c) s with
  |some (v,s)=> .val v s
  |none=> .no 60
noncomputable def cT (E:Env) (o:Z) (T:Tr AV) (s:St) (t:S) (x:W) (lo hi mx:Option W):Res:=
 match V T x with
  | .val (.string _)=>ak E o T s
  |v=>match ka E t v (lo.map (V T)) (hi.map (V T)) (mx.map (V T))with
   |some v=> .val v s
   |none=> .no 61
noncomputable def eY:List N->ByteArray->Option ByteArray
 |[],b=>F b
 |v :: vs,b=>match v with
  | .int .u8 n=>eY vs (b.push (UInt8.ofNat n.toNat))
  |_=>H
noncomputable def b6 (E:Env) (o:Z) (T:Tr AV) (s:St) (src dst:S) (x:W):Res:=
 match V T x with
  | .val (.string b)=>match E.ty dst,E.ty src with
   |some ti,F _=>match ti.k with
    | .slice elem _ _=>match E.ty elem with
     |some te=>match te.k with
      | .sc .u8=> .val (.sl s.n 0 b.size b.size true) (s.new (.cells (b.data.toList.map λx=> .val (.int .u8 x.toNat)) elem true))
      |_=> .no 62
     |none=> .no 62
    |_=>ak E o T s
   |_,_=> .no 62
  | .sl i off len _ _=>match E.ty dst,E.ty src with
   |some td,F ts=>match td.k,ts.k with
    | .str, .slice elem _ _=>match E.ty elem,aA s i off len with
     |some te,F cs=>match te.k,AV.toVals cs with
      | .sc .u8,F vs=>match eY vs .empty with
       |some b=> .val (.val (.string b)) s
       |none=> .no 63
      |_,_=> .no 63
     |_,_=> .no 63
    |_,_=> .no 64
   |_,_=> .no 64
  |_=>ak E o T s
noncomputable def bV (E:Env) (o:Z) (T:Tr AV) (s:St) (c:Call):Res:=
 match c.callee with
  | .builtin b=>match b,c.args.toList,c.argTypes.toList with
   | .len,[x],[t]=>match iA E t (V T x) s with
    |some n=> .val (.num n) s
    |none=>ak E o T s
   | .cap,[x],[t]=>match V T x with
    | .sl _ _ _ cp x=>match x with
     |false=>match E.ty t with
      |some ti=>match ti.k with
       | .slice ..=> .val (.num cp) s
       |_=> .no 65
      |none=> .no 65
     |true=> .no 65
    |_=>ak E o T s
   | .append,[x,y],[t,u]=>match E.ty u with
    |some tu=>match tu.k with
     | .sc _=>match bq (V T y)with
      |some i=>if 0<=i then match eN E t (V T x) i.toNat s with
        |some (v,s)=> .val v s
        |none=> .no 66
       else .no 66
      |none=> .no 66
     |_=>match gm E t (V T x) (V T y) s with
      |some (v,s)=> .val v s
      |none=> .no 67
    |none=> .no 68
   | .copy,[x,y],t :: _=>match j9 E t (V T x) (V T y) s with
    |some (n,s)=> .val (.num n) s
    |none=> .no 69
   | .min,[x,y],_=>match V T x with
    | .num a=>match V T y with
     | .num b=> .val (.num (cond (iF b a) b a)) s
     |_=>ak E o T s
    |_=>ak E o T s
   | .max,[x,y],_=>match V T x with
    | .num a=>match V T y with
     | .num b=> .val (.num (cond (iF a b) b a)) s
     |_=>ak E o T s
    |_=>ak E o T s
   | .recover,_,_=> .recover
   | .panic,[x],_=>match V T x with
    | .ifc t v=> .panic (.ifc t v) s
    |_=> .no 70
   |_,_,_=>ak E o T s
  | .value f=>c6 E o (V T f) (c.args.toList.map (V T)) s T
  | .invoke ..=> .no 71
noncomputable def cm (E:Env) (o:Z) (T:Tr AV) (s:St) (c:Call):Res:=
 match c.callee with
  | .value f=>match V T f with
   | .fn f a b=> .defer ⟨.fn f a b,c.args.toList.map (V T),H⟩
   | .val (.func f a b)=> .defer ⟨.val (.func f a b),c.args.toList.map (V T),H⟩
   |_=> .no 72
  |_=> .no 72
noncomputable def dB (E:Env) (o:Z) (T:Tr AV) (s:St) (x:W):Res:=
 match V T x with
  | .ifc t v=> .panic (.ifc t v) s
  | .val (.iface t v)=> .panic (.val (.iface t v)) s
  |_=> .no 73
noncomputable def jz (E:Env) (o:Z) (T:Tr AV) (s:St) (op:UnOp) (x:W):Res:=
 match op with
 | .neg=>match V T x with
  | .num n=> .val (.num (bM (Int.sub 0 n))) s
  |_=>ak E o T s
 | .not=>match V T x with
  | .bool b=> .val (.bool !b) s
  |_=>ak E o T s
 |_=>ak E o T s
noncomputable def an (E:Env) (o:Z) (T:Tr AV) (s:St):Res:=
 @Op.rec (λ_=>Env->Z->Tr AV->St->Res)
  (λx E o T s=>c9 E o T s x)
  (λx E o T s=>c9 E o T s x)
  (λc a b E o T s=>dX E o T s c a b)
  (λt E o T s=>cV E o T s t)
  (λt x E o T s=>eF E o T s t x)
  (λt parts E o T s=>cO E o T s t parts)
  (λt len parts E o T s=>aC E o T s t len parts)
  (λt m k v E o T s=>bh E o T s t m k v)
  (λt a E o T s=>c7 E o T s t a)
  (λt a v E o T s=>dy E o T s t a v)
  (λ_ E o T s=>ak E o T s)
  (λ_ E o T s=>ak E o T s)
  (λx E o T s=>bf E o T s x)
  (λop xt x y yt E o T s=>bP E o T s op xt x y yt)
  (λop _ x E o T s=>jz E o T s op x)
  (λsrc dst x E o T s=>b6 E o T s src dst x)
  (λ_ _ E o T s=>ak E o T s)
  (λt x E o T s=>ap E o T s t x)
  (λf first cap E o T s=>bc E o T s f first cap)
  (λt r E o T s=>bZ E o T s t r)
  (λ_ _ _ _ _ _=> .no 93)
  (λt l c E o T s=>aI E o T s t l c)
  (λt x lo hi mx E o T s=>cT E o T s t x lo hi mx)
  (λst x f E o T s=>aX E o T s st x f)
  (λxt x f E o T s=>cP E o T s xt x f)
  (λt x ix E o T s=>aY E o T s t x ix)
  (λxt x ix E o T s=>cU E o T s xt x ix)
  (λt x k ok E o T s=>bJ E o T s t x k ok)
  (λt m k v E o T s=>bh E o T s t m k v)
  (λt m k E o T s=>bK E o T s t m k)
  (λ_ m st v E o T s=>aZ E o T s m st v)
  (λt x E o T s=>dN E o T s t x)
  (λx isS E o T s=>fe E o T s x isS)
  (λx E o T s=>dH E o T s x)
  (λx xt t ok E o T s=>aN E o T s x xt t ok)
  (λt ix E o T s=>bz E o T s t ix)
  (λc E o T s=>bV E o T s c)
  (λ_ _ _ _ _=> .no 93)
  (λc E o T s=>cm E o T s c)
  (λx E o T s=>dB E o T s x)
  (λ_ _ _ _ _ _=> .no 93)
  (λ_ _ _ _ _ _ _=> .no 93)
  (λ_ _ _ _ _ _=> .no 93)
  o.op E o T s
noncomputable def c3 (o:Z):Bool:=
 match o.op with
 | .move _| .assign _| .pick ..| .alloc _| .box ..| .build ..| .buildSlice ..| .load ..| .nilCheck _| .binOp ..| .unOp ..| .makeInterface ..| .makeFunc ..| .makeSlice ..| .slice ..| .fieldAddr ..| .field ..
 | .indexAddr ..| .index ..| .lookup ..| .typeAssert ..| .extract ..=>true
 | .call c=>match c.callee with
  | .builtin b=>match b with
   | .len| .min| .max=>true
   |_=>false
  |_=>false
 |_=>false
noncomputable def bo (o:Z):Bool:=
 match o.op with
 | .load ..| .lookup ..| .entry ..=>true
 | .binOp op ..=>match op with
  | .eql=>true
  | .neq=>true
  |_=>false
 | .call c=>match c.callee with
  | .builtin b=>match b with
   | .len=>true
   |_=>false
  |_=>false
 |_=>false
noncomputable def hasEdge (o:Z) (j:Nat):Bool:=o.after.toList.any λe=>Region.binds .any e&&Nat.beq e.on j
noncomputable def cZ (ops:Array Z) (o:Z) (d:Tmp):Bool:=
 (o.op.operands.toList.any λx=>match x with| .tmp t=>Nat.beq t d|_=>false)||
 (match o.guard with
  |some g=>match ops[g.1]? with
   |some q=>match q.dst with
    |some t=>Nat.beq t d
    |none=>false
   |none=>false
  |none=>false)
noncomputable def lightIn (ops:Array Z) (j:Nat) (o:Z):Bool:=
 c3 o&&match o.dst with
  |none=>true
  |some d=>(List.range ops.size).all λi=>match ops[i]? with
   |some oi=>!(cZ ops oi d)||hasEdge oi j
   |none=>true
noncomputable def jc (ops:Array Z) (done:List Nat) (i:Nat):Bool:=
 match ops[i]? with
 |some o=>o.after.toList.all λe=>!Region.binds .any e||done.contains e.on
 |none=>false
noncomputable def iI (ops:Array Z):Nat->List Nat->List Nat->List (Nat×Bool)
 |0,_,_=>[]
 |k+1,done,left=>
  match left.find? (λi=>match ops[i]? with|some o=>lightIn ops i o&&jc ops done i|none=>false)with
  |some i=>(i,false) :: iI ops k (i :: done) (left.filter (· != i))
  |none=>match left.find? (jc ops done)with
   |some i=>(i,true) :: iI ops k (i :: done) (left.filter (· != i))
   |none=>[]
noncomputable def ls (ops:Array Z):List (Nat×Bool):=iI ops ops.size [] (List.range ops.size)
noncomputable def hO (ops:Array Z) (i:Nat) (done:List Nat):List Nat:=
 done.filter λj=>match ops[j]? with
  |some o=>bo o&&!(match ops[i]? with|some oi=>oi.after.toList.any λe=>Region.binds .any e&&e.on==j|none=>false)
  |none=>false
noncomputable def pick (ops:Array Z) (js:List Nat):List Z:=js.filterMap λj=>ops[j]?
noncomputable def iZ (ops:Array Z):List (Nat×Bool)->List Nat->List (Nat×Option (List Nat))
 |[],_=>[]
 |p :: rest,done=>(p.1,if p.2 then F (hO ops p.1 done)else H) :: iZ ops rest (p.1 :: done)
noncomputable def kq (ops:Array Z):List (Nat×Option (List Nat)):=iZ ops (ls ops) []
noncomputable def cx (ops:Array Z):List (Nat×Option (List Nat))->List (Z×Option (List Z))
 |[]=>[]
 |p :: rest=>match ops[p.1]? with
  |some o=>(o,match p.2 with|some js=>F (pick ops js)|none=>H) :: cx ops rest
  |none=>[]
noncomputable def jV (ops:Array Z):List (Z×Option (List Z)):=cx ops (kq ops)
mutual
noncomputable def AV.same:AV->AV->Bool
 | .num x, .num y=>x==y
 | .bool x, .bool y=>x==y
 | .val a, .val b=>match a,b with
  | .int k x, .int q y=>k==q&&x==y
  | .bool x, .bool y=>x==y
  | .string x, .string y=>x==y
  | .pointer H, .pointer H=>true
  | .slice H l c, .slice H l' c'=>l==l'&&c==c'
  | .map H, .map H=>true
  | .nilFunc, .nilFunc=>true
  | .nilIface, .nilIface=>true
  | .func (.func f) ⟨[]⟩ ⟨[]⟩, .func (.func g) ⟨[]⟩ ⟨[]⟩=>f==g
  |_,_=>false
 | .ptr i o, .ptr j p=>i==j&&o==p
 | .nes, .nes=>true
 | .sl i o l c x, .sl j p m d y=>i==j&&o==p&&l==m&&c==d&&x==y
 | .mp i, .mp j=>i==j
 | .fn f a c, .fn g b d=>f==g&&AV.sames a b&&AV.sames c d
 | .yld l, .yld m=>l==m
 | .ifc t v, .ifc u w=>t==u&&AV.same v w
 | .agg a, .agg b=>AV.sames a b
 | .tup a, .tup b=>AV.sames a b
 |_,_=>false
noncomputable def AV.sames:List AV->List AV->Bool
 |[],[]=>true
 |x :: xs,y :: ys=>AV.same x y&&AV.sames xs ys
 |_,_=>false
end
inductive Out where
 |no (why:Nat)
 |normal (T:Tr AV) (df:List ADef) (s:St)
 |exit (id:Nat) (T:Tr AV) (df:List ADef) (s:St)
 |ret (T:Tr AV) (df:List ADef) (s:St)
 |val (v:AV) (s:St)
 |panic (c:List APan) (T:Tr AV) (df:List ADef) (s:St)
inductive Task where
 |code (around:Option Nat) (c:Code) (T:Tr AV) (df:List ADef) (f:FuncId)
 |call (f:FuncId) (args:List AV)
 |calld (f:FuncId) (args:List AV)
 |leave (fn:Func) (T:Tr AV) (df:List ADef) (u:AMode)
 |round (l:Nat) (args:List AV)
noncomputable def jw (ops:List Z) (j:Nat):Option Z:=
 match ops with
 |[]=>H
 |o :: os=>match j with
  |0=>F o
  |j+1=>jw os j
noncomputable def dC (ops:List Z) (T:Tr AV) (g:Nat×Bool):Option Bool:=
 match jw ops g.1 with
 |some o=>match o.dst with
  |some d=>match T.get d with
   |some (.bool b)=>F (b==g.2)
   |some (.tup [])=>F false
   |_=>H
  |none=>F false
 |none=>F false
noncomputable def au (ops:List Z) (o:Z) (T:Tr AV):Option Bool:=
 @Option.rec (Nat×Bool) (λ_=>List Z->Tr AV->Option Bool) (λ_ _=>F true) (λg ops T=>dC ops T g) o.guard ops T
noncomputable def load {α:Type} (t:Tr α) (i:Nat) (xs:List α):Tr α:=
 @List.rec α (λ_=>Tr α->Nat->Tr α) (λt _=>t) (λx _ ih t i=>ih (Tr.put bits t i (F x)) (Nat.succ i)) xs t i
noncomputable def eA (E:Env) (T:Tr AV) (s:St):ResultVar->Option AV
 | .tmp t=>F (V T (.tmp t))
 | .cell a t=>e9 E t (V T (.tmp a)) s
noncomputable def b2 (E:Env) (T:Tr AV) (s:St):List ResultVar->Option (List AV)
 |[]=>F []
 |r :: rs=>match eA E T s r,b2 E T s rs with
  |some v,F vs=>F (v :: vs)
  |_,_=>H
noncomputable def fm (E:Env) (fn:Func) (T:Tr AV) (s:St):Option AV:=
 match b2 E T s fn.results.toList with
 |some [v]=>F v
 |some vs=>F (.tup vs)
 |none=>H
noncomputable def dD:AMode->AMode
 | .panicking (⟨_,true⟩ :: _)=> .returning
 |m=>m
noncomputable def dG (u:AMode) (c:List APan):AMode:=
 match u with
 | .panicking old=> .panicking (c++old)
 |_=> .panicking c
noncomputable def cB (E:Env) (ops:List Z) (T:Tr AV) (s:St) (o:Z) (d:Tmp):Bool:=
 match au ops o T with
 |some true=>match an E o T s with
  | .val v _=>match T.get d with
   |some w=>AV.same v w
   |none=>false
  |_=>false
 |some false=>true
 |none=>false
noncomputable def bS (E:Env) (ops:List Z) (T:Tr AV) (s:St) (js:List Z):Bool:=
 @List.rec Z (λ_=>Env->List Z->Tr AV->St->Bool) (λ_ _ _ _=>true)
  (λo _ ih E ops T s=>@Option.rec Tmp (λ_=>Bool) (ih E ops T s) (λd=>@Bool.rec (λ_=>Bool) false (ih E ops T s) (cB E ops T s o d)) o.dst) js E ops T s
noncomputable def eS (T:Tr AV):List Z->Tr AV
 |[]=>T
 |o :: os=>eS (aB T o.dst .top) os
abbrev b8:=Task->St->Out
abbrev bE:=Tr AV->List ADef->St->Out
noncomputable def dE (dst:Option Tmp) (T:Tr AV) (df:List ADef) (k:bE) (r:Out):Out:=
 @Out.rec (λ_=>Option Tmp->Tr AV->List ADef->bE->Out) (λw _ _ _ _=> .no w) (λ_ _ _ _ _ _ _=> .no 111) (λ_ _ _ _ _ _ _ _=> .no 111) (λ_ _ _ _ _ _ _=> .no 111)
  (λv s dst T df k=>k (aB T dst v) df s) (λc _ _ s _ T df _=> .panic c T df s) r dst T df k
noncomputable def cy (ar:Option Nat) (dst:Option Tmp) (T:Tr AV) (df:List ADef) (k:bE) (s:St):Out:=
 match ar with
 |none=>match s.u with
  |some (.panicking (⟨v,false⟩ :: older))=>k (aB T dst v) df {s with u:=F (.panicking (⟨v,true⟩ :: older))}
  |_=>k (aB T dst (.val .nilIface)) df s
 |some _=> .no 114
noncomputable def dV (ar:Option Nat) (dst:Option Tmp) (T:Tr AV) (df:List ADef) (k:bE) (s:St) (d:ADef):Out:=
 match ar with
 |none=>k (aB T dst ax) (d :: df) s
 |some _=> .no 113
abbrev lg:=b8->Option Nat->Option Tmp->Tr AV->List ADef->bE->St->Out
noncomputable def kp (ev:b8) (ar:Option Nat) (dst:Option Tmp) (T:Tr AV) (df:List ADef) (k:bE) (s:St) (r:Res):Out:=
 @Res.rec (λ_=>lg) (λv s _ _ dst T df k _=>k (aB T dst v) df s) (λs _ _ dst T df k _=>k (aB T dst ax) df s)
  (λf args s ev _ dst T df k _=>dE dst T df k (ev (.call f args) s)) (λl args ev _ dst T df k s=>dE dst T df k (ev (.round l args) s))
  (λd _ ar dst T df k s=>dV ar dst T df k s d) (λ_ ar dst T df k s=>cy ar dst T df k s)
  (λv s _ _ _ T df _ _=> .panic [⟨v,false⟩] T df s) (λw _ _ _ _ _ _ _=> .no (1000+w)) r ev ar dst T df k s
noncomputable def jg (E:Env) (ev:b8) (ar:Option Nat) (all:List Z) (o:Z) (k:bE) (T:Tr AV) (df:List ADef) (s:St):Out:=
 @Option.rec Bool (λ_=>Out) (.no 115) (λb=>@Bool.rec (λ_=>Out) (k (aB T o.dst ax) df s) (kp ev ar o.dst T df k s (an E o T s)) b) (au all o T)
noncomputable def e7 (E:Env) (ev:b8) (ar:Option Nat) (all os:List Z):bE:=
 @List.rec Z (λ_=>bE) (λT df s=> .normal T df s) (λo _ ih T df s=>jg E ev ar all o ih T df s) os
noncomputable def fO (E:Env) (all rs:List Z) (k:bE) (T:Tr AV) (df:List ADef) (s:St):Out:=
 @Bool.rec (λ_=>Out) (.no 215) (k T df s) (bS E all T s rs)
abbrev lm:=Env->List Z->List Z->Option Tmp->Tr AV->List ADef->bE->Out
noncomputable def cQ (E:Env) (all rs:List Z) (dst:Option Tmp) (T:Tr AV) (df:List ADef) (k:bE) (r:Out):Out:=
 @Out.rec (λ_=>lm) (λw _ _ _ _ _ _ _=> .no w) (λ_ _ _ _ _ _ _ _ _ _=> .no 211) (λ_ _ _ _ _ _ _ _ _ _ _=> .no 211) (λ_ _ _ _ _ _ _ _ _ _=> .no 211)
  (λv s E all rs dst T df k=>fO E all rs k (aB T dst v) df s) (λc _ _ s _ all _ _ T df _=> .panic c (eS T all) df s) r E all rs dst T df k
abbrev kW:=Env->b8->List Z->List Z->Option Tmp->Tr AV->List ADef->bE->St->Out
noncomputable def jh (E:Env) (ev:b8) (all rs:List Z) (dst:Option Tmp) (T:Tr AV) (df:List ADef) (k:bE) (s:St) (r:Res):Out:=
 @Res.rec (λ_=>kW) (λv s E _ all rs dst T df k _=>fO E all rs k (aB T dst v) df s) (λs E _ all rs dst T df k _=>fO E all rs k (aB T dst ax) df s)
  (λf args s E ev all rs dst T df k _=>cQ E all rs dst T df k (ev (.call f args) s)) (λl args E ev all rs dst T df k s=>cQ E all rs dst T df k (ev (.round l args) s))
  (λ_ _ _ _ _ _ _ _ _ _=> .no 213) (λ_ _ _ _ _ _ _ _ _=> .no 214)
  (λv s _ _ all _ _ T df _ _=> .panic [⟨v,false⟩] (eS T all) df s) (λw _ _ _ _ _ _ _ _ _=> .no (2000+w)) r E ev all rs dst T df k s
noncomputable def gA (E:Env) (ev:b8) (all rs:List Z) (o:Z) (k:bE) (T:Tr AV) (df:List ADef) (s:St):Out:=
 @Option.rec Bool (λ_=>Out) (.no 219) (λb=>@Bool.rec (λ_=>Out) (fO E all rs k (aB T o.dst ax) df s) (jh E ev all rs o.dst T df k s (an E o T s)) b) (au all o T)
noncomputable def fK (dst:Option Tmp) (T:Tr AV) (df:List ADef) (k:bE) (r:Res):Out:=
 match r with
 | .val v s=>k (aB T dst v) df s
 |_=> .no 220
noncomputable def d2 (E:Env) (all:List Z) (o:Z) (k:bE) (T:Tr AV) (df:List ADef) (s:St):Out:=
 @Option.rec Bool (λ_=>Out) (.no 221) (λb=>@Bool.rec (λ_=>Out) (k (aB T o.dst ax) df s) (fK o.dst T df k (an E o T s)) b) (au all o T)
noncomputable def b9 (E:Env) (ev:b8) (all:List Z) (os:List (Z×Option (List Z))):bE:=
 @List.rec (Z×Option (List Z)) (λ_=>bE) (λT df s=> .normal T df s)
  (λp _ ih T df s=>@Option.rec (List Z) (λ_=>Out) (d2 E all p.1 ih T df s) (λrs=>gA E ev all rs p.1 ih T df s) p.2) os
noncomputable def gR (E:Env) (ev:b8) (ar:Option Nat) (ops:Array Z) (d:Bool):bE:=
 @Bool.rec (λ_=>bE) (e7 E ev ar ops.toList ops.toList) (b9 E ev ops.toList (jV ops)) d
noncomputable def gp (ev:b8) (ar:Option Nat) (b:Code) (f:FuncId) (r:Out):Out:=
 @Out.rec (λ_=>b8->Option Nat->Code->FuncId->Out) (λw _ _ _ _=> .no w) (λT df s ev ar b f=>ev (.code ar b T df f) s) (λid T df s _ _ _ _=> .exit id T df s)
  (λT df s _ _ _ _=> .ret T df s) (λv s _ _ _ _=> .val v s) (λc T df s _ _ _ _=> .panic c T df s) r ev ar b f
noncomputable def fH (id:Nat) (r:Out):Out:=
 @Out.rec (λ_=>Nat->Out) (λw _=> .no w) (λT df s _=> .normal T df s) (λid' T df s id=>@Bool.rec (λ_=>Out) (.exit id' T df s) (.normal T df s) (Nat.beq id' id))
  (λT df s _=> .ret T df s) (λv s _=> .val v s) (λc T df s _=> .panic c T df s) r id
noncomputable def gP (ev:b8) (ar:Option Nat) (a b:Code) (T:Tr AV) (df:List ADef) (f:FuncId) (s:St) (v:AV):Out:=
 match v with
 | .bool x=>match x with
  |true=>ev (.code ar a T df f) s
  |false=>ev (.code ar b T df f) s
 | .top=> .no 101| .num _=> .no 101| .val _=> .no 101| .ptr ..=> .no 101| .sl ..=> .no 101| .nes=> .no 101| .mp _=> .no 101| .fn ..=> .no 101| .yld _=> .no 101| .ifc ..=> .no 101| .agg _=> .no 101| .tup _=> .no 101
noncomputable def e8 (ev:b8) (ar:Option Nat) (l:Nat) (T:Tr AV) (df:List ADef) (f:FuncId) (r:Out):Out:=
 match r with
 | .val _ s=>match s.h.get l with
  |some (.loop st pend a b c d e g)=>
   if st= .busy then .no 103 else
   let s:=s.upd l (F (.loop .exhausted pend a b c d e g))
   match pend with
   |none=> .normal T df s
   |some c=>ev (.code ar c T df f) s
  |_=> .no 104
 | .panic c _ _ s=> .panic c T df s
 | .no w=> .no w
 |_=> .no 105
noncomputable def cJ (ar:Option Nat) (s:St):Option (Nat×List ADef×St):=
 match ar with
 |some l=>match s.h.get l with
  |some (.loop _ _ _ _ _ _ _ d)=>F (d,[],s)
  |_=>H
 |none=>F (s.n,[⟨ax,[],F s.n⟩],s.new (.deferred []))
noncomputable def gt (E:Env) (ev:b8) (ar:Option Nat) (g:W) (ps:Array Tmp) (assign body:Code) (T:Tr AV) (df:List ADef) (f:FuncId) (s:St):Out:=
 match cJ ar s with
 |none=> .no 102
 |some (d,mark,s)=>
  match c6 E default (V T g) [.yld s.n] (s.new (.loop .ready H f T ps.toList assign body d)) T with
  | .enter f' args s2=>e8 ev ar s.n T (mark++df) f (ev (.call f' args) s2)
  |_=> .no 106
abbrev li:=Env->b8->Option Nat->Tr AV->List ADef->FuncId->St->Out
noncomputable def km (E:Env) (ev:b8) (ar:Option Nat) (c:Code) (T:Tr AV) (df:List ADef) (f:FuncId) (s:St):Out:=
 @Code.casesOn (λ_=>li) c
  (λ_ _ _ T df _ s=> .normal T df s)
  (λ_ ops d E ev ar T df _ s=>gR E ev ar ops d T df s)
  (λa b _ ev ar T df f s=>gp ev ar b f (ev (.code ar a T df f) s))
  (λc a b _ ev ar T df f s=>gP ev ar a b T df f s (V T c))
  (λid b _ ev ar T df f s=>fH id (ev (.code ar b T df f) s))
  (λb _ ev ar T df f s=>gp ev ar (.loop b) f (ev (.code ar b T df f) s))
  (λg ps assign body E ev ar T df f s=>gt E ev ar g ps assign body T df f s)
  (λid _ _ _ T df _ s=> .exit id T df s)
  (λb _ ev ar T df f s=>ev (.code ar b T df f) s)
  (λ_ _ _ _ T df _ s=> .normal T df s)
  (λ_ _ _ _ _ _ _ _=> .no 108)
  (λ_ _ _ T df _ s=> .ret T df s)
  (λ_ _ _ _ _ _ _ _=> .no 109) E ev ar T df f s
noncomputable def jR (ev:b8) (fn:Func) (u:Option AMode) (r:Out):Out:=
 @Out.rec (λ_=>b8->Func->Option AMode->Out) (λw _ _ _=> .no w) (λT df s ev fn u=>ev (.leave fn T df .returning) {s with u:=u}) (λ_ _ _ _ _ _ _=> .no 316)
  (λT df s ev fn u=>ev (.leave fn T df .returning) {s with u:=u}) (λ_ _ _ _ _=> .no 316) (λc T df s ev fn u=>ev (.leave fn T df (.panicking c)) {s with u:=u}) r ev fn u
noncomputable def i7 (ev:b8) (f:FuncId) (args:List AV) (s:St) (fn:Func):Out:=
 match fn.body with
 |none=> .no 313
 |some c=>jR ev fn s.u (ev (.code H c (load .nil 0 args) [] f) {s with u:=H})
noncomputable def eB (E:Env) (ev:b8) (f:FuncId) (args:List AV) (s:St):Out:=
 match E.fn f with
 |none=> .no 312
 |some fn=>i7 ev f args s fn
noncomputable def jj (E:Env) (ev:b8) (f:FuncId) (args:List AV) (s:St) (r:Option (AV×St)):Out:=
 match r with
 |some v=> .val v.1 v.2
 |none=>eB E ev f args s
noncomputable def ig (E:Env) (ev:b8) (f:FuncId) (args:List AV) (s:St):Out:=
 match E.plug f with
 |some p=>jj E ev f args s (p args s)
 |none=>eB E ev f args s
noncomputable def jy (r:Out):Out:=
 match r with
 | .normal _ [] s=> .val ax s
 | .ret _ [] s=> .val ax s
 | .panic c T [] s=> .panic c T [] s
 | .no w=> .no w
 |_=> .no 424
noncomputable def f4 (E:Env) (ev:b8) (f:FuncId) (args:List AV) (s:St):Out:=
 match E.fn f with
 |none=> .no 412
 |some fn=>match fn.body with
  |none=> .no 413
  |some c=>match fn.results.toList with
   |[]=>jy (ev (.code H c (load .nil 0 args) [] f) s)
   |_=> .no 414
noncomputable def fJ (ev:b8) (fn:Func) (T:Tr AV) (ds:List ADef) (u0:Option AMode) (r:Out):Out:=
 match r with
 | .val _ s'=>match s'.u with
  |some u'=>ev (.leave fn T ds (dD u')) {s' with u:=u0}
  |none=> .no 525
 | .panic c _ _ s'=>match s'.u with
  |some u'=>ev (.leave fn T ds (dG u' c)) {s' with u:=u0}
  |none=> .no 526
 | .no w=> .no w
 |_=> .no 522
noncomputable def hW (E:Env) (fn:Func) (T:Tr AV) (u:AMode) (s:St):Out:=
 match u with
 | .returning=>match fm E fn T s with
  |some v=> .val v s
  |none=> .no 514
 | .panicking c=> .panic c T [] s
noncomputable def f6 (E:Env) (ev:b8) (fn:Func) (T:Tr AV) (df:List ADef) (u:AMode) (s:St):Out:=
 match df with
 |[]=>hW E fn T u s
 |d :: ds=>match d.coll with
  |some r=>match s.h.get r with
   |some (.deferred l)=>ev (.leave fn T (l++ds) u) (s.upd r H)
   |_=> .no 521
  |none=>match c6 E default d.fv d.args s T with
   | .enter f args s=>fJ ev fn T ds s.u (ev (.calld f args) {s with u:=F u})
   |_=> .no 523
noncomputable def bi (l:Nat) (u:Option AMode) (j:Option Code) (s2:St):Out:=
 match s2.h.get l with
 |some (.loop _ _ f1 T1 ps1 a1 b1 d1)=>
  .val (.bool j.isNone) {s2.upd l (F (.loop (if j.isNone then .ready else .done) j f1 T1 ps1 a1 b1 d1))with u:=u}
 |_=> .no 617
noncomputable def fT (l:Nat) (u:Option AMode) (r:Out):Out:=
 match r with
 | .normal _ _ s=>bi l u H s
 | .ret _ _ s=>bi l u (F .ret) s
 | .exit id _ _ s=>bi l u (F (.exit id)) s
 | .panic c T df s2=>match df with
  |[]=> .panic c T [] {s2 with u:=u}
  |_=> .no 616
 | .no w=> .no w
 |_=> .no 618
noncomputable def dh (ev:b8) (l:Nat) (body:Code) (f:FuncId) (u:Option AMode) (r:Out):Out:=
 match r with
 | .normal T df s'=>match s'.h.get l with
  |some (.loop .ready p f0 T0 ps0 a0 b0 d0)=>fT l u (ev (.code (F l) body T df f) (s'.upd l (F (.loop .busy p f0 T0 ps0 a0 b0 d0))))
  |_=> .no 619
 | .no w=> .no w
 |_=> .no 620
noncomputable def f8 (E:Env) (ev:b8) (l:Nat) (args:List AV) (s:St):Out:=
 match s.h.get l with
 |some (.loop _ _ f T ps assign body _)=>
  match E.fn f with
  |none=> .no 623
  |some _=>match Nat.beq args.length ps.length with
   |true=>dh ev l body f s.u (ev (.code (F l) assign ((ps.zip args).foldl (λT p=>T.put bits p.1 (F p.2)) T) [] f) {s with u:=H})
   |false=> .no 621
 |_=> .no 622
noncomputable def gY (E:Env) (ev:b8) (t:Task) (s:St):Out:=
 @Task.rec (λ_=>Env->b8->St->Out) (λar c T df f E ev s=>km E ev ar c T df f s) (λf args E ev s=>ig E ev f args s) (λf args E ev s=>f4 E ev f args s)
  (λfn T df u E ev s=>f6 E ev fn T df u s) (λl args E ev s=>f8 E ev l args s) t E ev s
noncomputable def ev (E:Env) (k:Nat):b8:=
 @Nat.rec (λ_=>b8) (λ_ _=> .no 100) (λ_ ih t s=>gY E ih t s) k
noncomputable def code:Out->Nat
 | .no w=>w
 | .val (.bool true) _=>0
 | .val ..=>1
 | .panic ..=>2
 | .normal ..=>3
 | .ret ..=>4
 | .exit ..=>5
noncomputable def gy (ops:Array Z) (i j:Nat) (oi oj:Z):Bool:=
 !(lightIn ops i oi||lightIn ops j oj)||match oj.dst with
   |none=>true
   |some d=>(!(cZ ops oi d)||hasEdge oi j||(!(lightIn ops j oj)&&hasEdge oj i))&&(Nat.beq i j||match oi.dst with|some t=>!(Nat.beq t d)|none=>true)
noncomputable def memN (i:Nat) (l:List Nat):Bool:=l.any (Nat.beq i)
noncomputable def kS (ops:Array Z) (done:List Nat):List (Nat×Option (List Nat))->Bool
 |[]=>(List.range ops.size).all λi=>memN i done
 |p :: rest=>(match ops[p.1]? with
  |none=>false
  |some o=>!(memN p.1 done)&&(o.after.toList.all λe=>!(Region.binds .any e)||memN e.on done)&&
   (match p.2 with
    |none=>lightIn ops p.1 o
    |some rs=>(rest.all λq=>match ops[q.1]? with
      |some oq=>oq.after.toList.any λe=>Region.binds .any e&&!(memN e.on done)
      |none=>false)&&
     (done.all λj=>match ops[j]? with
      |some q=>!(lightIn ops j q)||hasEdge o j||!(bo q)||(memN j rs&&match q.dst with|some _=>true|none=>false)
      |none=>true))&&kS ops (p.1 :: done) rest)
noncomputable def planOK (ops:Array Z):Bool:=
 kS ops [] (kq ops)&&(List.range ops.size).all λi=>(List.range ops.size).all λj=>match ops[i]? with
  |some oi=>match ops[j]? with
   |some oj=>gy ops i j oi oj
   |none=>true
  |none=>true
end
section
abbrev aj:=Nat->Option (Nat×Nat)
mutual
inductive VR (ρ:aj):AV->N->Prop
 |top (v:N):VR ρ .top v
 |num (n:Int):VR ρ (.num n) (.int .i64 n)
 |bool (x:Bool):VR ρ (.bool x) (.bool x)
 |val (v:N):VR ρ (.val v) v
 |ptr {i o b e:Nat} (h:ρ i=F (b,e)):VR ρ (.ptr i o) (.pointer (F ⟨b,o,H⟩))
 |sl {i o l c b e:Nat} {x:Bool} (h:ρ i=F (b,e)):VR ρ (.sl i o l c x) (.slice (F ⟨b,o,H⟩) l (if x then c+e else c))
 |nes (a:Addr) (c:Nat):VR ρ .nes (.slice (F a) 0 c)
 |mp {i b e:Nat} (h:ρ i=F (b,e)):VR ρ (.mp i) (.map (F b))
 |fn {f:FuncId} {fs cs:List AV} {vs ws:List N} (h1:VRs ρ fs vs) (h2:VRs ρ cs ws):VR ρ (.fn f fs cs) (.func (.func f) ⟨vs⟩ ⟨ws⟩)
 |yld {l b e:Nat} (h:ρ l=F (b,e)):VR ρ (.yld l) (.func (.yield b) #[] #[])
 |ifc {t:S} {a:AV} {v:N} (h:VR ρ a v):VR ρ (.ifc t a) (.iface t v)
 |agg {cs:List AV} {vs:List N} (h:VRs ρ cs vs):VR ρ (.agg cs) (.agg ⟨vs⟩)
 |tup {cs:List AV} {vs:List N} (h:VRs ρ cs vs):VR ρ (.tup cs) (.tuple ⟨vs⟩)
inductive VRs (ρ:aj):List AV->List N->Prop
 |nil:VRs ρ [] []
 |cons {a:AV} {v:N} {as:List AV} {vs:List N} (h:VR ρ a v) (hs:VRs ρ as vs):VRs ρ (a :: as) (v :: vs)
end
def Le (ρ ρ':aj):Prop:=∀i x,ρ i=F x->ρ' i=F x
theorem Le.refl (ρ:aj):Le ρ ρ:=λ_ _ h=>h
theorem Le.trans {ρ ρ' ρ'':aj} (h:Le ρ ρ') (h':Le ρ' ρ''):Le ρ ρ'':=λi x hx=>h' i x (h i x hx)
mutual
theorem VR.mono {ρ ρ':aj} (le:Le ρ ρ') {a:AV} {v:N} (h:VR ρ a v):VR ρ' a v:=by
 cases h with
 |top v=>exact .top v
 |num n=>exact .num n
 |bool x=>exact .bool x
 |val v=>exact .val v
 |ptr h=>exact .ptr (le _ _ h)
 |sl h=>exact .sl (le _ _ h)
 |nes a c=>exact .nes a c
 |mp h=>exact .mp (le _ _ h)
 |fn h1 h2=>exact .fn (VRs.mono le h1) (VRs.mono le h2)
 |yld h=>exact .yld (le _ _ h)
 |ifc h=>exact .ifc (VR.mono le h)
 |agg h=>exact .agg (VRs.mono le h)
 |tup h=>exact .tup (VRs.mono le h)
theorem VRs.mono {ρ ρ':aj} (le:Le ρ ρ') {a:List AV} {v:List N} (h:VRs ρ a v):VRs ρ' a v:=by
 cases h with
 |nil=>exact .nil
 |cons h hs=>exact .cons (VR.mono le h) (VRs.mono le hs)
end
theorem VRs.length {ρ:aj} {as:List AV} {vs:List N} (h:VRs ρ as vs):as.length=vs.length:=by
 induction as generalizing vs with
 |nil=>cases h;rfl
 |cons a as ih=>cases h with|cons h hs=>simp[ih hs]
theorem VRs.append {ρ:aj} {as bs:List AV} {vs ws:List N} (h:VRs ρ as vs) (h':VRs ρ bs ws):VRs ρ (as++bs) (vs++ws):=by
 induction as generalizing vs with
 |nil=>cases h;exact h'
 |cons a as ih=>cases h with|cons h hs=>exact .cons h (ih hs)
@[simp] theorem lj (n:Nat):fz [] n=H:=rfl
@[simp] theorem lc (x:AV) (xs:List AV):fz (x :: xs) 0=F x:=rfl
@[simp] theorem ld (x:AV) (xs:List AV) (n:Nat):fz (x :: xs) (n+1)=fz xs n:=rfl
theorem VRs.get {ρ:aj} {as:List AV} {vs:List N} (h:VRs ρ as vs) {n:Nat} {a:AV} (ha:fz as n=F a):∃v,vs[n]?=F v/\VR ρ a v:=by
 induction as generalizing vs n with
 |nil=>simp at ha
 |cons x xs ih=>
  cases h with
  |cons h hs=>
   cases n with
   |zero=>simp at ha;subst ha;exact⟨_,by simp,h⟩
   |succ n=>simp at ha;simpa using ih hs ha
theorem VRs.take {ρ:aj} {as:List AV} {vs:List N} (h:VRs ρ as vs) (n:Nat):VRs ρ (cD n as) (vs.take n):=by
 induction as generalizing vs n with
 |nil=>cases h;cases n<;>exact .nil
 |cons x xs ih=>
  cases h with
  |cons h hs=>cases n with
   |zero=>exact .nil
   |succ n=>exact .cons h (ih hs n)
theorem VRs.drop {ρ:aj} {as:List AV} {vs:List N} (h:VRs ρ as vs) (n:Nat):VRs ρ (dv n as) (vs.drop n):=by
 induction as generalizing vs n with
 |nil=>cases h;cases n<;>exact .nil
 |cons x xs ih=>
  cases h with
  |cons h hs=>cases n with
   |zero=>exact .cons h hs
   |succ n=>simpa[dv]using ih hs n
theorem VRs.put {ρ:aj} {as bs cs:List AV} {vs ws:List N} (h:VRs ρ as vs) {o:Nat} (hb:VRs ρ bs ws) (hp:ew as o bs=F cs):
  VRs ρ cs (vs.take o++ws++vs.drop (o+ws.length))/\o+ws.length<=vs.length\/(bs=[]/\VRs ρ cs vs):=by
 induction as generalizing vs o bs ws cs with
 |nil=>
  cases h
  cases bs with
  |nil=>right;cases o<;>simp[ew]at hp<;>subst hp<;>exact⟨rfl, .nil⟩
  |cons b bs=>cases o<;>simp[ew]at hp
 |cons x xs ih=>
  cases h with
  |@cons _ v _ vs hx hs=>
  cases o with
  |zero=>
   cases bs with
   |nil=>right;simp[ew]at hp;subst hp;exact⟨rfl, .cons hx hs⟩
   |cons b bs=>
    left
    simp only[ew]at hp
    cases hr:ew xs 0 bs with
    |none=>simp[hr]at hp
    |some r=>
     simp[hr]at hp
     subst hp
     cases hb with
     |@cons _ w _ ws hw hws=>
     rcases ih hs hws hr with⟨h1,h2⟩|⟨h1,h2⟩
     ·refine⟨?_,by simp at h2⊢;omega⟩
      simp at h1⊢
      exact .cons hw h1
     ·subst h1
      cases hws
      simp
      exact .cons hw h2
  |succ o=>
   simp only[ew]at hp
   cases hr:ew xs o bs with
   |none=>simp[hr]at hp
   |some r=>
    simp[hr]at hp
    subst hp
    rcases ih hs hb hr with⟨h1,h2⟩|⟨h1,h2⟩
    ·left
     refine⟨?_,by simp at h2⊢;omega⟩
     simp at h1⊢
     have he:o+1+ws.length=(o+ws.length)+1:=by omega
     rw[he]
     simp
     exact .cons hx h1
    ·right
     exact⟨h1, .cons hx h2⟩
section
variable {α:Type}
@[simp] theorem Tr.get_nil (n:Nat):(Tr.nil:Tr α).get n=H:=rfl
@[simp] theorem Tr.get_zero (v:Option α) (l r:Tr α):(Tr.node v l r).get 0=v:=rfl
theorem Tr.get_succ (v:Option α) (l r:Tr α) (m:Nat):(Tr.node v l r).get (m+1)=if m % 2=0 then l.get (m / 2)else r.get (m / 2):=by
 show @Bool.rec (λ_=>Option α) (r.get (m / 2)) (l.get (m / 2)) (Nat.beq (m % 2) 0)=_
 cases h:Nat.beq (m % 2) 0 with
 |true=>have:=U h;simp[this]
 |false=>have:=Nat.ne_of_beq_eq_false h;simp[this]
theorem Tr.one_zero (k:Nat) (x:Option α):Tr.one (k+1) 0 x= .node x .nil .nil:=rfl
theorem Tr.one_succ (k m:Nat) (x:Option α):Tr.one (k+1) (m+1) x=if m % 2=0 then .node H (Tr.one k (m / 2) x) .nil else .node H .nil (Tr.one k (m / 2) x):=by
 show @Bool.rec (λ_=>Tr α) (.node H .nil (Tr.one k (m / 2) x)) (.node H (Tr.one k (m / 2) x) .nil) (Nat.beq (m % 2) 0)=_
 cases h:Nat.beq (m % 2) 0 with
 |true=>have:=U h;simp[this]
 |false=>have:=Nat.ne_of_beq_eq_false h;simp[this]
theorem Tr.get_one_ne (k:Nat):∀(n m:Nat) (x:Option α),m≠n->(Tr.one k n x).get m=H:=by
 induction k with
 |zero=>intro n m x h;rfl
 |succ k ih=>
  intro n m x h
  cases n with
  |zero=>
   cases m with
   |zero=>exact absurd rfl h
   |succ m=>rw[Tr.one_zero,Tr.get_succ];split<;>rfl
  |succ n=>
   rw[Tr.one_succ]
   cases m with
   |zero=>split<;>rfl
   |succ m=>
    split<;>rw[Tr.get_succ]<;>split<;>first|rfl|(apply ih;omega)
theorem Tr.get_one_eq (k:Nat):∀(n:Nat) (x:Option α),(Tr.one k n x).get n=x\/(Tr.one k n x).get n=H:=by
 induction k with
 |zero=>intro n x;right;rfl
 |succ k ih=>
  intro n x
  cases n with
  |zero=>left;rfl
  |succ n=>
   rw[Tr.one_succ]
   split<;>rename_i h<;>rw[Tr.get_succ]<;>simp[h]<;>exact ih _ _
theorem Tr.put_nil (k n:Nat) (x:Option α):Tr.put k .nil n x=Tr.one k n x:=rfl
theorem Tr.put_zero (k:Nat) (v:Option α) (l r:Tr α) (x:Option α):Tr.put k (.node v l r) 0 x= .node x l r:=rfl
theorem Tr.put_succ (k:Nat) (v:Option α) (l r:Tr α) (m:Nat) (x:Option α):
  Tr.put k (.node v l r) (m+1) x=if m % 2=0 then .node v (Tr.put k l (m / 2) x) r else .node v l (Tr.put k r (m / 2) x):=by
 show @Bool.rec (λ_=>Tr α) (.node v l (Tr.put k r (m / 2) x)) (.node v (Tr.put k l (m / 2) x) r) (Nat.beq (m % 2) 0)=_
 cases h:Nat.beq (m % 2) 0 with
 |true=>have:=U h;simp[this]
 |false=>have:=Nat.ne_of_beq_eq_false h;simp[this]
theorem Tr.get_put_ne (k:Nat) (t:Tr α):∀(n m:Nat) (x:Option α),m≠n->(t.put k n x).get m=t.get m:=by
 induction t with
 |nil=>intro n m x h;rw[Tr.put_nil];exact Tr.get_one_ne k n m x h
 |node v l r ihl ihr=>
  intro n m x h
  cases n with
  |zero=>
   rw[Tr.put_zero]
   cases m with
   |zero=>exact absurd rfl h
   |succ m=>rw[Tr.get_succ,Tr.get_succ]
  |succ n=>
   rw[Tr.put_succ]
   cases m with
   |zero=>split<;>rfl
   |succ m=>
    split<;>rw[Tr.get_succ,Tr.get_succ]<;>split<;>first|rfl|(apply ihl;omega)|(apply ihr;omega)
theorem Tr.get_put_eq (k:Nat) (t:Tr α):∀(n:Nat) (x:Option α),(t.put k n x).get n=x\/(t.put k n x).get n=H:=by
 induction t with
 |nil=>intro n x;rw[Tr.put_nil];exact Tr.get_one_eq k n x
 |node v l r ihl ihr=>
  intro n x
  cases n with
  |zero=>left;rfl
  |succ n=>
   rw[Tr.put_succ]
   split<;>rename_i h<;>rw[Tr.get_succ]<;>simp[h]<;>first|exact ihl _ _|exact ihr _ _
theorem Tr.put_some {k:Nat} {t:Tr α} {n m:Nat} {x:Option α} {y:α} (h:(t.put k n x).get m=F y):(m=n/\x=F y)\/(m≠n/\t.get m=F y):=by
 by_cases hm:m=n
 ·subst hm
  rcases Tr.get_put_eq k t m x with he|he
  ·exact .inl ⟨rfl,he▸h⟩
  ·rw[he]at h;cases h
 ·exact .inr ⟨hm,by rw[Tr.get_put_ne k t n m x hm]at h;exact h⟩
end
def ER (ρ:aj) (T:Tr AV) (tmps:Array N):Prop:=∀t v,T.get t=F v->t<tmps.size/\VR ρ v (tmps.getD t undef)
theorem ER.mono {ρ ρ':aj} (le:Le ρ ρ') {T:Tr AV} {tmps:Array N} (h:ER ρ T tmps):ER ρ' T tmps:=
 λt v ht=>⟨(h t v ht).1,(h t v ht).2.mono le⟩
theorem ER.put {ρ:aj} {T:Tr AV} {tmps:Array N} (h:ER ρ T tmps) {t:Nat} {v:AV} {x:N} (ht:t<tmps.size) (hv:VR ρ v x):
  ER ρ (T.put bits t (F v)) (tmps.setIfInBounds t x):=by
 intro m u hm
 rcases Tr.put_some hm with⟨rfl,hu⟩|⟨hne,hu⟩
 ·injection hu with hu
  subst hu
  refine⟨by simpa using ht,?_⟩
  simp[ht]
  exact hv
 ·obtain⟨h1,h2⟩:=h m u hu
  refine⟨by simpa using h1,?_⟩
  have:(tmps.setIfInBounds t x).getD m undef=tmps.getD m undef:=by
   simp[Array.getElem?_setIfInBounds_ne (Ne.symm hne)]
  rw[this];exact h2
theorem jD (T:Tr AV) (t:Tmp) (v:AV):aB T (F t) v=T.put bits t (F v):=rfl
def kR (n:Nat) (d:Option Tmp):Prop:=∀t,d=F t->t<n
theorem ER.putT {ρ:aj} {T:Tr AV} {a:Act} (h:ER ρ T a.tmps) {d:Option Tmp} {v:AV} {x:N} (hd:kR a.tmps.size d) (hv:VR ρ v x):
  ER ρ (aB T d v) (a.put d x).tmps:=by
 cases d with
 |none=>exact h
 |some t=>rw[jD];exact h.put (hd t rfl) hv
theorem bF (a:Act) (d:Option Tmp) (x:N):(a.put d x).tmps.size=a.tmps.size:=by
 cases d<;>simp[Act.put]
def ac (g:Nat):W->Bool
 | .global i=>Nat.blt i g
 |_=>true
theorem VR.mkVal (ρ:aj) (v:N):VR ρ (lz v) v:=by
 cases v<;>simp only[lz]<;>first|exact .val _|exact .bool _|skip
 rename_i k n
 cases k<;>simp only[i6]<;>first|exact .num _|exact .val _
theorem VRs.mkVal (ρ:aj):∀vs:List N,VRs ρ (vs.map lz) vs
 |[]=> .nil
 |v :: vs=> .cons (VR.mkVal ρ v) (VRs.mkVal ρ vs)
theorem VR.ofConst (ρ:aj) (v:N):VR ρ (cR v) v:=by
 cases v<;>simp only[cR]<;>first|exact .val _|exact .bool _|skip
 ·rename_i k n
  cases k<;>simp only[i6]<;>first|exact .num _|exact .val _
 ·rename_i cs
  exact .agg (VRs.mkVal ρ cs.toList)
theorem VR.evalO {ρ:aj} {T:Tr AV} {a:Act} {g:Nat} (h:ER ρ T a.tmps) (hg:∀i,i<g->ρ i=F (i,0)) {x:W} (hx:ac g x=true):
  VR ρ (V T x) (a.eval x):=by
 cases x with
 |tmp t=>
  show VR ρ (gb (T.get t)) (a.tmps.getD t undef)
  cases ht:T.get t with
  |none=>exact .top _
  |some v=>exact(h t v ht).2
 |const v=>exact VR.ofConst ρ v
 |global i=>
  have:i<g:=by simpa[ac,Nat.blt_eq]using hx
  exact .ptr (hg i this)
 |func f=>exact .val _
end
section
theorem a3 (b o n:Nat):(⟨b,o,H⟩:Addr).add n=⟨b,o+n,H⟩:=by
 unfold Addr.add;split<;>simp_all
theorem dJ (w:aa) (b o:Nat) {l:List N} {el:S} {fr:Nat×Nat} (h:w.heap[b]?=F (.cells ⟨l⟩ el fr)):w.cell? ⟨b,o,H⟩=l[o]?:=by
 simp[aa.cell?,h]
structure Same (w w':aa):Prop where
 os:w'.os=w.os
 tape:w'.tape=w.tape
 output:w'.output=w.output
theorem Same.refl (w:aa):Same w w:=⟨rfl,rfl,rfl⟩
theorem Same.trans {w w' w'':aa} (h:Same w w') (h':Same w' w''):Same w w'':=
 ⟨h'.os.trans h.os,h'.tape.trans h.tape,h'.output.trans h.output⟩
def gn (n:Nat) (fr:Nat×Nat):Prop:=∀off,off<n->¬(fr.1<=off/\off<fr.2)
theorem bL {P:Program} (b o:Nat) (el:S) (fr:Nat×Nat):∀(us:List N) (l:List N) (i:Nat) (w:aa),
  w.heap[b]?=F (.cells ⟨l⟩ el fr)->gn l.length fr->o+i+us.length<=l.length->(∀u∈us,u.oneCell'=true)->
  ∃w',(Go.storeCells ⟨b,o,H⟩ us i).run P w= .ok () w'/\w'.heap[b]?=F (.cells ⟨l.take (o+i)++us++l.drop (o+i+us.length)⟩ el fr)/\
   w'.heap.size=w.heap.size/\(∀c,c≠b->w'.heap[c]?=w.heap[c]?)/\Same w w'
 |[],l,i,w,h,_,_,_=>⟨w,by simp[Go.storeCells],by simp[h],rfl,λ_ _=>rfl,Same.refl w⟩
 |u :: us,l,i,w,h,hf,hl,hc=>by
  simp at hl
  have hlt:o+i<l.length:=by omega
  have hcell:w.cell? ⟨b,o+i,H⟩=F l[o+i]:=by rw[dJ w b _ h];simp[hlt]
  have hfz:w.frozen? ⟨b,o+i,H⟩=false:=by
   simp only[aa.frozen?,h]
   have:=hf (o+i) hlt
   obtain⟨lo,hi⟩:=fr
   simp at this⊢
   exact this
  have hb:b<w.heap.size:=by
   rcases Nat.lt_or_ge b w.heap.size with h'|h'
   ·exact h'
   ·simp[Array.getElem?_eq_none h']at h
  have h1:(w.setCell ⟨b,o+i,H⟩ u).heap[b]?=F (.cells ⟨l.set (o+i) u⟩ el fr):=by
   simp only[aa.setCell,Array.getElem?_modify,if_true,h,Option.map_some]
   simp
  obtain⟨w',hr,hb',hs,ho,hsame⟩:=bL (P:=P) b o el fr us (l.set (o+i) u) (i+1) (w.setCell ⟨b,o+i,H⟩ u) h1
   (by simpa using hf) (by simp;omega) (λx hx=>hc x (List.mem_cons_of_mem _ hx))
  refine⟨w',?_,?_,?_,?_,?_⟩
  ·simp only[Go.storeCells,J,a3]
   rw[run_store P w _ u .plain (hc u (List.mem_cons_self ..)),hcell]
   simp only[hfz,Bool.false_eq_true,if_false,I]
   exact hr
  ·rw[hb']
   congr 3
   apply List.ext_getElem?
   intro k
   simp only[List.getElem?_append,List.length_take,List.length_append,List.length_cons,List.getElem?_take,List.getElem?_drop,List.length_set,List.getElem?_set]
   have e1:min (o+(i+1)) l.length=o+i+1:=by omega
   have e2:min (o+i) l.length=o+i:=by omega
   rw[e1,e2]
   by_cases hk:k<o+i
   ·have h1:k<o+i+1:=by omega
    have h2:k<o+i+1+us.length:=by omega
    have h3:k<o+i+(us.length+1):=by omega
    have h4:k<o+(i+1):=by omega
    have h5:o+i≠k:=by omega
    simp[hk,h1,h2,h3,h4,h5]
   ·by_cases hk2:k=o+i
    ·subst hk2
     have h2:o+i<o+i+1+us.length:=by omega
     have h4:o+i<o+(i+1):=by omega
     simp[h2,h4,hlt]
    ·have h1:¬k<o+i+1:=by omega
     obtain⟨m,rfl⟩:∃m,k=o+i+1+m:=⟨k - (o+i+1),by omega⟩
     have e3:o+i+1+m - (o+i)=m+1:=by omega
     have e4:o+i+1+m - (o+i+1)=m:=by omega
     by_cases hm:m<us.length
     ·simp[h1,hk,e3,e4,hm]
      omega
     ·have h7:¬(o+i+1+m<o+i+1+us.length):=by omega
      have h8:¬(o+i+1+m<o+i+(us.length+1)):=by omega
      have e5:o+(i+1)+us.length+(o+i+1+m - (o+i+1+us.length))=o+i+1+m:=by omega
      have e6:o+i+(us.length+1)+(o+i+1+m - (o+i+(us.length+1)))=o+i+1+m:=by omega
      have h9:o+i≠o+i+1+m:=by omega
      simp[h1,hk,h7,h8,e5,e6,h9]
  ·rw[hs];simp
  ·intro c hcb
   rw[ho c hcb,aa.setCell]
   simp only[Array.getElem?_modify]
   simp[Ne.symm hcb]
  ·exact Same.trans (w':=w.setCell ⟨b,o+i,H⟩ u) ⟨rfl,rfl,rfl⟩ hsame
theorem bO {P:Program} (w:aa) (b o n:Nat) {l:List N} {el:S} {fr:Nat×Nat} (h:w.heap[b]?=F (.cells ⟨l⟩ el fr)) (hn:((l.drop o).take n).length=n):
  (Go.loadCells ⟨b,o,H⟩ n).run P w= .ok ⟨(l.drop o).take n⟩ w:=by
 have:=run_loadCells_list (P:=P) w ⟨b,o,H⟩ ((l.drop o).take n) (λj v hv=>by
  rw[a3,dJ w b _ h]
  rw[List.getElem?_take]at hv
  split at hv
  ·rw[List.getElem?_drop]at hv;exact hv
  ·cases hv)
 rw[hn]at this
 exact this
def av (P:Program) (t:S):Bool:=
 match P.underlying t with
 |some d=>match d with
  | .struct _| .array _ _=>true
  |_=>false
 |none=>false
def bC (P:Program) (t:S):Bool:=(P.info? t).isSome&&(P.underlying t).isSome
def ir (P:Program) (d:TypeDesc):TK->Prop
 | .struct fs=>∃fields,d= .struct fields/\fs=fields.toList.map (λf=>(f.offset,P.cellsOf f.type,av P f.type))/\∀f∈fields,bC P f.type=true
 | .array n es ea=>∃e,d= .array n e/\es=P.cellsOf e/\ea=av P e/\bC P e=true
 | .slice e es by_=>d= .slice e/\es=P.cellsOf e/\by_=P.bytesOf e/\bC P e=true
 | .iface=>∃ms,d= .interface ms
 | .mapT k e=>d= .map k e
 | .str=>d= .string
 | .sc k=>d= .int k
 | .ptr es=>∃e,d= .pointer e/\es=P.cellsOf e/\bC P e=true
 | .func=>∃a b c,d= .func a b c
 | .other=>match d with
  | .struct _| .array _ _| .slice _| .interface _| .map _ _| .string| .int _| .pointer _| .func ..=>False
  |_=>True
structure TIOK (P:Program) (t:S) (ti:TI):Prop where
 ex:∃d info z,P.underlying t=F d/\P.info? t=F info/\info.size=ti.size/\info.zero=F z/\ti.zero=z.cells.toList.map lz/\z.cells.size=ti.size/\
  ((∃c,z= .agg c)↔av P t=true)/\ir P d ti.k
structure EOK (E:Env):Prop where
 ty:∀t ti,E.ty t=F ti->TIOK E.P t ti
 fn:∀f fn,E.fn f=F fn->E.P.funcs[f]?=F fn
 name:∀f fn,E.fn f=F fn->(fn.name== "runtime.NumGoroutine")=false
theorem ab {P:Program} {t:S} (h:bC P t=true) (w:aa):(Go.sizeOf t).run P w= .ok (P.cellsOf t) w:=by
 unfold bC at h
 simp at h
 obtain⟨i,hi⟩:=Option.isSome_iff_exists.1 h.1
 simp[Go.sizeOf,typeInfo,hi,Program.cellsOf]
theorem eG {P:Program} {t:S} (h:bC P t=true) (w:aa):(isAgg t).run P w= .ok (av P t) w:=by
 unfold bC at h
 simp at h
 obtain⟨d,hd⟩:=Option.isSome_iff_exists.1 h.2
 unfold isAgg av
 rw[J]
 simp only[underlying,J,run_program,I,hd,O]
 cases d<;>rfl
theorem TIOK.known {P:Program} {t:S} {ti:TI} (h:TIOK P t ti):bC P t=true:=by
 obtain⟨d,info,z,h1,h2,_⟩:=h.ex
 simp[bC,h1,h2]
theorem TIOK.size {P:Program} {t:S} {ti:TI} (h:TIOK P t ti):P.cellsOf t=ti.size:=by
 obtain⟨d,info,z,h1,h2,h3,_⟩:=h.ex
 simp[Program.cellsOf,h2,h3]
theorem TIOK.run_underlying {P:Program} {t:S} {ti:TI} (h:TIOK P t ti):∃d,ir P d ti.k/\∀w,(underlying t).run P w= .ok d w:=by
 obtain⟨d,info,z,h1,h2,h3,h4,h5,h6,h7,h8⟩:=h.ex
 exact⟨d,h8,λw=>by simp[underlying,h1]⟩
theorem TIOK.agg {P:Program} {t:S} {ti:TI} (h:TIOK P t ti):av P t=(match ti.k with| .struct _| .array ..=>true|_=>false):=by
 obtain⟨d,info,z,h1,h2,h3,h4,h5,h6,h7,h8⟩:=h.ex
 unfold av
 rw[h1]
 cases hk:ti.k<;>rw[hk]at h8<;>simp only[ir]at h8
 ·subst h8;rfl
 ·obtain⟨_,rfl,_⟩:=h8;rfl
 ·obtain⟨_,_,_,rfl⟩:=h8;rfl
 ·obtain⟨_,rfl,_⟩:=h8;rfl
 ·obtain⟨_,rfl,_⟩:=h8;rfl
 ·obtain⟨rfl,_⟩:=h8;rfl
 ·obtain⟨_,rfl⟩:=h8;rfl
 ·subst h8;rfl
 ·subst h8;rfl
 ·cases d<;>first|rfl|exact h8.elim
def DR (ρ:aj) (d:ADef) (c:Deferred):Prop:=
 match d.coll with
 |some r=>∃b e,ρ r=F (b,e)/\c.target= .collected b/\c.args=#[]
 |none=>∃fn first cap vs,VR ρ d.fv (.func fn first cap)/\VRs ρ d.args vs/\c={target:= .fn fn cap,args:=first++⟨vs⟩}
def fN (ρ:aj):List ADef->List Deferred->Prop
 |[],[]=>True
 |d :: ds,c :: cs=>DR ρ d c/\fN ρ ds cs
 |_,_=>False
def MR (ρ:aj):List (N×AV×Nat)->List MapEntry->Prop
 |[],[]=>True
 |e :: es,m :: ms=>(m.key=e.1/\VR ρ e.2.1 m.val/\m.born=e.2.2)/\MR ρ es ms
 |_,_=>False
theorem DR.mono {ρ ρ':aj} (le:Le ρ ρ') {d:ADef} {c:Deferred} (h:DR ρ d c):DR ρ' d c:=by
 unfold DR at *
 split at h
 ·obtain⟨b,e,hr,h⟩:=h;exact⟨b,e,le _ _ hr,h⟩
 ·obtain⟨fn,first,cap,vs,h1,h2,h3⟩:=h;exact⟨fn,first,cap,vs,h1.mono le,h2.mono le,h3⟩
theorem fN.mono {ρ ρ':aj} (le:Le ρ ρ'):∀{ds:List ADef} {cs:List Deferred},fN ρ ds cs->fN ρ' ds cs
 |[],[],_=>trivial
 |_ :: _,_ :: _,h=>⟨h.1.mono le,fN.mono le h.2⟩
 |[],_ :: _,h=>h.elim
 |_ :: _,[],h=>h.elim
theorem MR.mono {ρ ρ':aj} (le:Le ρ ρ'):∀{ds:List (N×AV×Nat)} {cs:List MapEntry},MR ρ ds cs->MR ρ' ds cs
 |[],[],_=>trivial
 |_ :: _,_ :: _,h=>⟨⟨h.1.1,h.1.2.1.mono le,h.1.2.2⟩,MR.mono le h.2⟩
 |[],_ :: _,h=>h.elim
 |_ :: _,[],h=>h.elim
abbrev aD:=Nat->Code->Prop
structure LoopR (G:aD) (ρ:aj) (state:LoopState) (pend:Option Code) (fn:FuncId) (T:Tr AV) (params:List Tmp) (assign body:Code) (d:Nat) (lp:Loop):Prop where
 hstate:lp.state=state
 hpend:lp.pending=pend
 hfn:lp.fn=fn
 tmps:ER ρ T lp.tmps
 hparams:lp.params.toList=params
 hassign:lp.assign=assign
 hbody:lp.body=body
 defers:∃db e,ρ d=F (db,e)/\lp.defers=db
 goodA:G lp.tmps.size assign
 goodB:G lp.tmps.size body
 inb:∀t∈params,t<lp.tmps.size
 goodP:∀c,pend=F c->c= .ret\/∃id,c= .exit id
inductive OR (E:Env) (G:aD) (ρ:aj) (e:Nat):AObj->Obj->Prop
 |cells {cs:List AV} {el:S} {x:Bool} (vs rest:List N) (fr:Nat×Nat) (h:VRs ρ cs vs) (hf:gn (vs.length+rest.length) fr)
   (hx:x=false->rest=[]/\e=0/\fr=(0,0)) (he:∀ti,E.ty el=F ti->rest.length=e*ti.size):OR E G ρ e (.cells cs el x) (.cells ⟨vs++rest⟩ el fr)
 |map {es:List (N×AV×Nat)} {c:Nat} (l:List MapEntry) (h:MR ρ es l):OR E G ρ e (.map es c) (.map ⟨l⟩ c)
 |siter (s:ByteArray) (p:Nat):OR E G ρ e (.siter s p) (.stringIter s p)
 |miter0 (since:Nat) (seen:List Nat) (st:Nat):OR E G ρ e (.miter H since seen st) (.mapIter H since ⟨seen⟩ st)
 |miter {i b e':Nat} (since:Nat) (seen:List Nat) (st:Nat) (h:ρ i=F (b,e')):OR E G ρ e (.miter (F i) since seen st) (.mapIter (F b) since ⟨seen⟩ st)
 |loop {state:LoopState} {pend:Option Code} {fn:FuncId} {T:Tr AV} {params:List Tmp} {assign body:Code} {d:Nat} (lp:Loop)
   (h:LoopR G ρ state pend fn T params assign body d lp):OR E G ρ e (.loop state pend fn T params assign body d) (.loop lp)
 |deferred {ds:List ADef} (l:List Deferred) (h:fN ρ ds l):OR E G ρ e (.deferred ds) (.deferred (F l))
 |ro {k:Nat} {cs:List AV} (vs:List N) (el:S) (fr:Nat×Nat) (h:VRs ρ cs vs) (hg:E.gh k= .cells ⟨vs⟩ el fr):OR E G ρ e (.ro k cs) (.cells ⟨vs⟩ el fr)
theorem OR.mono {E:Env} {G:aD} {ρ ρ':aj} (le:Le ρ ρ') {e:Nat} {o:AObj} {b:Obj} (h:OR E G ρ e o b):OR E G ρ' e o b:=by
 cases h with
 |cells vs rest fr h hf hx he=>exact .cells vs rest fr (h.mono le) hf hx he
 |map l h=>exact .map l (h.mono le)
 |siter s p=>exact .siter s p
 |miter0 a b c=>exact .miter0 a b c
 |miter a b c h=>exact .miter a b c (le _ _ h)
 |loop lp h=>exact .loop lp {h with tmps:=h.tmps.mono le,defers:=let⟨db,e,h1,h2⟩:=h.defers;⟨db,e,le _ _ h1,h2⟩}
 |deferred l h=>exact .deferred l (h.mono le)
 |ro vs el fr h hg=>exact .ro vs el fr (h.mono le) hg
def cc (st:St) (i:Nat):Prop:=∃o,st.h.get i=F o
structure Rel (E:Env) (G:aD) (ρ:aj) (st:St) (h:Array Obj):Prop where
 obj:∀i o b e,st.h.get i=F o->ρ i=F (b,e)->∃ob,h[b]?=F ob/\OR E G ρ e o ob
 inj:∀i j b e e',cc st i->cc st j->ρ i=F (b,e)->ρ j=F (b,e')->i=j
 fresh:∀i,st.n<=i->ρ i=H/\st.h.get i=H
 below:∀i b e,ρ i=F (b,e)->b<h.size
 glob:∀g,g<E.P.globals.size->ρ g=F (g,0)
structure Ext (ρ:aj) (st:St) (h:Array Obj) (ρ':aj) (st':St) (h':Array Obj):Prop where
 mono:Le ρ ρ'
 old:∀i,i<st.n->ρ i=H->ρ' i=H
 virt:∀i,i<st.n->ρ i=H->st'.h.get i=st.h.get i
 n:st.n<=st'.n
 size:h.size<=h'.size
 keep:∀b,b<h.size->(∀i e,cc st i->ρ i≠F (b,e))->h'[b]?=h[b]?
 dom:∀i b e,cc st' i->ρ' i=F (b,e)->h.size<=b\/∃j e',cc st j/\ρ j=F (b,e')
theorem Ext.refl (ρ:aj) (st:St) (h:Array Obj):Ext ρ st h ρ st h:=
 ⟨Le.refl ρ,λ_ _ h=>h,λ_ _ _=>rfl,Nat.le_refl _,Nat.le_refl _,λ_ _ _=>rfl,λi _ e hl hr=> .inr ⟨i,e,hl,hr⟩⟩
theorem Ext.trans {ρ ρ' ρ'':aj} {st st' st'':St} {h h' h'':Array Obj} (a:Ext ρ st h ρ' st' h') (b:Ext ρ' st' h' ρ'' st'' h''):Ext ρ st h ρ'' st'' h'' where
 mono:=a.mono.trans b.mono
 old i hi hr:=b.old i (Nat.lt_of_lt_of_le hi a.n) (a.old i hi hr)
 virt i hi hr:=(b.virt i (Nat.lt_of_lt_of_le hi a.n) (a.old i hi hr)).trans (a.virt i hi hr)
 n:=Nat.le_trans a.n b.n
 size:=Nat.le_trans a.size b.size
 keep c hc hn:=by
  rw[b.keep c (Nat.lt_of_lt_of_le hc a.size) ?_,a.keep c hc hn]
  intro i e hl hr
  rcases a.dom i c e hl hr with h1|⟨j,e',h1,h2⟩
  ·omega
  ·exact hn j e' h1 h2
 dom i c e hl hr:=by
  rcases b.dom i c e hl hr with h1|⟨j,e',h1,h2⟩
  ·exact .inl (Nat.le_trans a.size h1)
  ·exact a.dom j c e' h1 h2
theorem Rel.withU {E:Env} {G:aD} {ρ:aj} {st:St} {h:Array Obj} (r:Rel E G ρ st h) (u:Option AMode):Rel E G ρ {st with u:=u} h:=
 ⟨r.obj,r.inj,r.fresh,r.below,r.glob⟩
theorem Ext.withU {ρ ρ':aj} {st st':St} {h h':Array Obj} (a:Ext ρ st h ρ' st' h') (u u':Option AMode):Ext ρ {st with u:=u} h ρ' {st' with u:=u'} h':=
 ⟨a.mono,a.old,a.virt,a.n,a.size,a.keep,a.dom⟩
theorem cr {h:Array Obj} {b:Nat} {o:Obj} (hb:h[b]?=F o):b<h.size:=by
 rcases Nat.lt_or_ge b h.size with h'|h'
 ·exact h'
 ·simp[Array.getElem?_eq_none h']at hb
def aK (ρ:aj) (i b e:Nat):aj:=λj=>if j=i then F (b,e)else ρ j
theorem cK {ρ:aj} {i b e:Nat} (h:ρ i=H):Le ρ (aK ρ i b e):=by
 intro j x hx
 unfold aK
 split
 ·rename_i hj;subst hj;rw[h]at hx;cases hx
 ·exact hx
theorem ae (ρ:aj) (i b e:Nat):aK ρ i b e i=F (b,e):=by simp[aK]
theorem cn {st:St} {o:AObj} {i:Nat} {x:AObj} (h:(st.new o).h.get i=F x):(i=st.n/\x=o)\/(i≠st.n/\st.h.get i=F x):=by
 rcases Tr.put_some (h:(st.h.put bits st.n (F o)).get i=F x)with⟨h1,h2⟩|h
 ·injection h2 with h2;exact .inl ⟨h1,h2.symm⟩
 ·exact .inr h
theorem Rel.new {E:Env} {G:aD} {ρ:aj} {st:St} {h h':Array Obj} (r:Rel E G ρ st h) {o:AObj} {b e:Nat} {ob:Obj} (hs:h.size<=h'.size)
  (hk:∀c,c≠b->c<h.size->h'[c]?=h[c]?) (hb:h'[b]?=F ob) (ho:OR E G ρ e o ob) (hfree:∀i e,cc st i->ρ i≠F (b,e)):
  Rel E G (aK ρ st.n b e) (st.new o) h'/\(h.size<=b->Ext ρ st h (aK ρ st.n b e) (st.new o) h'):=by
 have hn:ρ st.n=H:=(r.fresh st.n (Nat.le_refl _)).1
 have le:=cK (b:=b) (e:=e) hn
 have hlive:∀i,cc (st.new o) i->i=st.n\/(i≠st.n/\cc st i):=by
  rintro i ⟨x,hx⟩
  rcases cn hx with⟨h1,_⟩|⟨h1,h2⟩
  ·exact .inl h1
  ·exact .inr ⟨h1,x,h2⟩
 have hlt:=cr hb
 constructor
 ·refine⟨?_,?_,?_,?_,?_⟩
  ·intro i x c e' hx hr
   rcases cn hx with⟨rfl,rfl⟩|⟨hne,hx⟩
   ·rw[ae]at hr
    injection hr with hr
    injection hr with h1 h2
    subst h1;subst h2
    exact⟨ob,hb,ho.mono le⟩
   ·have hr':ρ i=F (c,e'):=by simpa[aK,hne]using hr
    obtain⟨oc,h1,h2⟩:=r.obj i x c e' hx hr'
    have hcb:c≠b:=λhcb=>hfree i e' ⟨x,hx⟩ (hcb▸hr')
    exact⟨oc,by rw[hk c hcb (cr h1)];exact h1,h2.mono le⟩
  ·intro i j c e1 e2 hi hj h1 h2
   rcases hlive i hi with rfl|⟨hne,hi⟩<;>rcases hlive j hj with hj'|⟨hne',hj⟩
   ·exact hj'.symm
   ·rw[ae]at h1
    injection h1 with h1
    injection h1 with h1 _
    subst h1
    exact absurd (by simpa[aK,hne']using h2) (hfree j e2 hj)
   ·subst hj'
    rw[ae]at h2
    injection h2 with h2
    injection h2 with h2 _
    subst h2
    exact absurd (by simpa[aK,hne]using h1) (hfree i e1 hi)
   ·exact r.inj i j c e1 e2 hi hj (by simpa[aK,hne]using h1) (by simpa[aK,hne']using h2)
  ·intro i hi
   have hi':st.n+1<=i:=hi
   have hne:i≠st.n:=by omega
   refine⟨by simpa[aK,hne]using(r.fresh i (by omega)).1,?_⟩
   show(st.h.put bits st.n (F o)).get i=H
   rw[Tr.get_put_ne _ _ _ _ _ hne]
   exact(r.fresh i (by omega)).2
  ·intro i c e' hr
   by_cases hi:i=st.n
   ·subst hi;rw[ae]at hr;injection hr with hr;injection hr with h1 _;subst h1;exact hlt
   ·exact Nat.lt_of_lt_of_le (r.below i c e' (by simpa[aK,hi]using hr)) hs
  ·exact λg hg=>le _ _ (r.glob g hg)
 ·intro hge
  refine⟨le,?_,?_,?_,hs,?_,?_⟩
  ·intro i hi hr;have:i≠st.n:=by omega
   simpa[aK,this]using hr
  ·intro i hi _
   show(st.h.put bits st.n (F o)).get i=_
   exact Tr.get_put_ne _ _ _ _ _ (by omega)
  ·show st.n<=st.n+1;omega
  ·intro c hc _;exact hk c (by omega) hc
  ·intro i c e' hl hr
   rcases hlive i hl with rfl|⟨hne,hi⟩
   ·rw[ae]at hr;injection hr with hr;injection hr with h1 _;subst h1;exact .inl hge
   ·exact .inr ⟨i,e',hi,by simpa[aK,hne]using hr⟩
theorem Rel.upd {E:Env} {G:aD} {ρ:aj} {st:St} {h h':Array Obj} (r:Rel E G ρ st h) {i:Nat} {o o':AObj} {b e:Nat} {ob:Obj} (hi:st.h.get i=F o) (hr:ρ i=F (b,e))
  (hs:h'.size=h.size) (hk:∀c,c≠b->h'[c]?=h[c]?) (hb:h'[b]?=F ob) (ho:OR E G ρ e o' ob):
  Rel E G ρ (st.upd i (F o')) h'/\Ext ρ st h ρ (st.upd i (F o')) h':=by
 have hget:∀j x,(st.upd i (F o')).h.get j=F x->(j=i/\x=o')\/(j≠i/\st.h.get j=F x):=by
  intro j x hx
  rcases Tr.put_some (hx:(st.h.put bits i (F o')).get j=F x)with⟨h1,h2⟩|h
  ·injection h2 with h2;exact .inl ⟨h1,h2.symm⟩
  ·exact .inr h
 have hlive:∀j,cc (st.upd i (F o')) j->cc st j:=by
  rintro j ⟨x,hx⟩
  rcases hget j x hx with⟨rfl,_⟩|⟨_,h⟩
  ·exact⟨o,hi⟩
  ·exact⟨x,h⟩
 constructor
 ·refine⟨?_,?_,?_,?_,r.glob⟩
  ·intro j x c e' hx hrj
   rcases hget j x hx with⟨rfl,rfl⟩|⟨hne,hx⟩
   ·rw[hr]at hrj;injection hrj with hrj;injection hrj with h1 h2;subst h1;subst h2;exact⟨ob,hb,ho⟩
   ·obtain⟨oc,h1,h2⟩:=r.obj j x c e' hx hrj
    have hcb:c≠b:=λhcb=>hne (r.inj j i b e' e ⟨x,hx⟩ ⟨o,hi⟩ (hcb▸hrj) hr)
    exact⟨oc,by rw[hk c hcb];exact h1,h2⟩
  ·exact λj k c e1 e2 hj hk h1 h2=>r.inj j k c e1 e2 (hlive j hj) (hlive k hk) h1 h2
  ·intro j hj
   have hj':st.n<=j:=hj
   have hne:j≠i:=λhe=>by subst he;have:=(r.fresh j hj').2;rw[hi]at this;cases this
   refine⟨(r.fresh j hj').1,?_⟩
   show(st.h.put bits i (F o')).get j=H
   rw[Tr.get_put_ne _ _ _ _ _ hne]
   exact(r.fresh j hj').2
  ·intro j c e' hrj;rw[hs];exact r.below j c e' hrj
 ·refine⟨Le.refl ρ,λ_ _ h=>h,?_,Nat.le_refl _,by rw[hs];exact Nat.le_refl _,?_,λj c e' hl hrj=> .inr ⟨j,e',hlive j hl,hrj⟩⟩
  ·intro j _ hn
   show(st.h.put bits i (F o')).get j=_
   exact Tr.get_put_ne _ _ _ _ _ (λhe=>by subst he;rw[hr]at hn;cases hn)
  ·intro c hc hn
   exact hk c (λhcb=>hn i e ⟨o,hi⟩ (hcb▸hr))
theorem Rel.kill {E:Env} {G:aD} {ρ:aj} {st:St} {h:Array Obj} (r:Rel E G ρ st h) {i b e:Nat} (hr:ρ i=F (b,e)):
  Rel E G ρ (st.upd i H) h/\Ext ρ st h ρ (st.upd i H) h:=by
 have hget:∀j x,(st.upd i H).h.get j=F x->j≠i/\st.h.get j=F x:=by
  intro j x hx
  rcases Tr.put_some (hx:(st.h.put bits i H).get j=F x)with⟨_,h2⟩|h
  ·cases h2
  ·exact h
 have hlive:∀j,cc (st.upd i H) j->cc st j:=λj ⟨x,hx⟩=>⟨x,(hget j x hx).2⟩
 constructor
 ·refine⟨λj x c e' hx hrj=>r.obj j x c e' (hget j x hx).2 hrj,λj k c e1 e2 hj hk h1 h2=>r.inj j k c e1 e2 (hlive j hj) (hlive k hk) h1 h2,?_,r.below,r.glob⟩
  intro j hj
  refine⟨(r.fresh j hj).1,?_⟩
  have:(st.upd i H).h.get j=H:=by
   cases hx:(st.upd i H).h.get j with
   |none=>rfl
   |some x=>have:=(hget j x hx).2;rw[(r.fresh j hj).2]at this;cases this
  exact this
 ·refine⟨Le.refl ρ,λ_ _ h=>h,?_,Nat.le_refl _,Nat.le_refl _,λ_ _ _=>rfl,λj c e' hl hrj=> .inr ⟨j,e',hlive j hl,hrj⟩⟩
  intro j _ hn
  show(st.h.put bits i H).get j=_
  exact Tr.get_put_ne _ _ _ _ _ (λhe=>by subst he;rw[hr]at hn;cases hn)
end
section
structure Mv (E:Env) (G:aD) (ρ:aj) (st:St) (w:aa) (ρ':aj) (st':St) (w':aa):Prop where
 rel:Rel E G ρ' st' w'.heap
 ext:Ext ρ st w.heap ρ' st' w'.heap
 same:Same w w'
 u:st'.u=st.u
theorem Mv.refl {E:Env} {G:aD} {ρ:aj} {st:St} {w:aa} (r:Rel E G ρ st w.heap):Mv E G ρ st w ρ st w:=⟨r,Ext.refl _ _ _,Same.refl w,rfl⟩
theorem Mv.trans {E:Env} {G:aD} {ρ ρ' ρ'':aj} {st st' st'':St} {w w' w'':aa} (a:Mv E G ρ st w ρ' st' w') (b:Mv E G ρ' st' w' ρ'' st'' w''):Mv E G ρ st w ρ'' st'' w'':=
 ⟨b.rel,a.ext.trans b.ext,a.same.trans b.same,b.u.trans a.u⟩
theorem VR.cellV {ρ:aj} {a:AV} {v:N} (h:VR ρ a v) (hc:a.cell=true):v.oneCell'=true:=by
 cases h<;>first|rfl|skip
 ·simp[AV.cell]at hc
 ·cases v<;>first|rfl|(simp[AV.cell]at hc)
 ·simp[AV.cell]at hc
 ·simp[AV.cell]at hc
theorem VRs.cellsV {ρ:aj} {as:List AV} {vs:List N} (h:VRs ρ as vs) (hc:as.all AV.cell=true):∀v∈vs,v.oneCell'=true:=by
 induction as generalizing vs with
 |nil=>cases h;simp
 |cons a as ih=>
  cases h with
  |cons h hs=>
   simp only[List.all_cons,Q]at hc
   intro v hv
   rcases List.mem_cons.1 hv with rfl|hv
   ·exact h.cellV hc.1
   ·exact ih hs hc.2 v hv
theorem VR.cells {ρ:aj} {a:AV} {v:N} (h:VR ρ a v) {cs:List AV} (hc:a.cells=F cs):VRs ρ cs v.cells.toList:=by
 cases h<;>simp only[AV.cells]at hc
 case top=>cases hc
 case num=>cases hc;exact .cons (.num _) .nil
 case bool=>cases hc;exact .cons (.bool _) .nil
 case val=>
  split at hc
  ·cases hc
   cases v<;>first|exact .cons (.val _) .nil|(simp[lf]at *)
  ·cases hc
 case ptr h=>cases hc;exact .cons (.ptr h) .nil
 case sl h=>cases hc;exact .cons (.sl h) .nil
 case nes=>cases hc;exact .cons (.nes _ _) .nil
 case mp h=>cases hc;exact .cons (.mp h) .nil
 case fn h1 h2=>cases hc;exact .cons (.fn h1 h2) .nil
 case yld h=>cases hc;exact .cons (.yld h) .nil
 case ifc h=>cases hc;exact .cons (.ifc h) .nil
 case agg h=>cases hc;exact h
 case tup=>cases hc
mutual
theorem VR.toVal {ρ:aj} {a:AV} {v u:N} (h:VR ρ a v) (hu:a.toVal=F u):v=u:=by
 cases h<;>simp only[AV.toVal]at hu
 case top=>cases hu
 case num=>cases hu;rfl
 case bool=>cases hu;rfl
 case val=>cases hu;rfl
 case ptr=>cases hu
 case sl=>cases hu
 case nes=>cases hu
 case mp=>cases hu
 case fn=>cases hu
 case yld=>cases hu
 case ifc t a v h=>
  split at hu
  ·rename_i x hx;cases hu;rw[VR.toVal h hx]
  ·cases hu
 case agg cs vs h=>
  split at hu
  ·rename_i x hx;cases hu;rw[VRs.toVals h hx]
  ·cases hu
 case tup cs vs h=>
  split at hu
  ·rename_i x hx;cases hu;rw[VRs.toVals h hx]
  ·cases hu
theorem VRs.toVals {ρ:aj} {as:List AV} {vs us:List N} (h:VRs ρ as vs) (hu:AV.toVals as=F us):vs=us:=by
 cases h with
 |nil=>simp only[AV.toVals]at hu;cases hu;rfl
 |cons h hs=>
  simp only[AV.toVals]at hu
  split at hu
  ·rename_i x xs hx hxs
   cases hu
   rw[VR.toVal h hx,VRs.toVals hs hxs]
  ·cases hu
end
theorem VRs.ofConst (ρ:aj):∀vs:List N,VRs ρ (vs.map cR) vs
 |[]=> .nil
 |v :: vs=> .cons (VR.ofConst ρ v) (VRs.ofConst ρ vs)
theorem VR.ofVal (ρ:aj) (v:N):VR ρ (kQ v) v:=by
 unfold kQ
 split
 ·rename_i cs;exact .tup (VRs.ofConst ρ cs.toList)
 ·exact VR.ofConst ρ v
theorem bD {P:Program} {α:Type}:∀(s:Sem α) (a:α),ay P s=F a->∀w,s.run P w= .ok a w:=by
 intro s
 induction s with
 |pure a=>intro b h w;simp only[ay]at h;cases h;rfl
 |program k ih=>intro b h w;simp only[ay]at h;exact ih P b h w
 |mark m k ih=>intro b h w;simp only[ay]at h;exact ih b h w
 |_=>intro b h w;simp[ay]at h
def cw (o:Z):Bool:=match o.op with| .select ..=>false|_=>true
theorem fp {o:Z} (h:cw o=true):∀cs b,o.op≠ .select cs b:=by
 intro cs b he
 simp[cw,he]at h
def ao (g:Nat) (o:Z):Bool:=o.op.operands.all (ac g)&&cw o
theorem cu {g:Nat} {o:Z} (h:ao g o=true) {x:W} (hx:x∈o.op.operands):ac g x=true:=by
 simp only[ao,Q]at h
 exact(Array.all_eq_true_iff_forall_mem.1 h.1) x hx
theorem aw {g:Nat} {o:Z} (h:ao g o=true):cw o=true:=by
 simp only[ao,Q]at h;exact h.2
def bl (E:Env) (G:aD) (ρ:aj) (st:St) (w:aa) (r:Result Next):Res->Prop
 | .val v st'=>∃x w' ρ',r= .ok (.value x) w'/\VR ρ' v x/\Mv E G ρ st w ρ' st' w'
 | .skip st'=>∃w' ρ',r= .ok .skip w'/\Mv E G ρ st w ρ' st' w'
 | .enter f args st'=>st'=st/\∃xs,r= .ok (.enter f ⟨xs⟩) w/\VRs ρ args xs
 | .round l args=>∃b e xs,ρ l=F (b,e)/\VRs ρ args xs/\r=(Instr.yield b ⟨xs⟩).run E.P w
 | .defer d=>∃c,r= .ok (.defer c) w/\DR ρ d c
 | .recover=>r= .ok .recover w
 | .panic v st'=>st'=st/\∃x,r= .halt (.panic x) w/\VR ρ v x
 | .no _=>True
section
variable {E:Env} {G:aD} {ρ:aj} {st:St} {w:aa} {T:Tr AV} {a:Act} {o:Z}
theorem aS (hR:Rel E G ρ st w.heap) (hE:ER ρ T a.tmps) (ho:ao E.P.globals.size o=true):bl E G ρ st w ((execOp a.eval o).run E.P w) (ak E o T st):=by
 unfold ak
 split
 ·rename_i hall
  have hx:∀x∈o.op.operands,ie T x=a.eval x:=by
   intro x hx
   have h1:=(Array.all_eq_true_iff_forall_mem.1 hall) x hx
   obtain⟨u,hu⟩:=Option.isSome_iff_exists.1 h1
   have h2:=(VR.evalO hE (λi hi=>hR.glob i hi) (cu ho hx)).toVal hu
   simp[ie,hu,h2]
  rw[<-execOp_congr o (fp (aw ho)) hx]
  cases hp:ay E.P (execOp (ie T) o)with
  |none=>trivial
  |some n=>
   have hrun:=bD _ _ hp w
   cases n<;>simp<;>try trivial
   ·exact⟨_,w,ρ,hrun,VR.ofVal ρ _,Mv.refl hR⟩
   ·exact⟨w,ρ,hrun,Mv.refl hR⟩
 ·trivial
theorem a7 (hR:Rel E G ρ st w.heap) {i b e:Nat} (hi:ρ i=F (b,e)) {cs:List AV} {el:S} {x:Bool} (hc:st.h.get i=F (.cells cs el x)):
  ∃vs rest fr,w.heap[b]?=F (.cells ⟨vs++rest⟩ el fr)/\VRs ρ cs vs/\gn (vs.length+rest.length) fr/\(x=false->rest=[]/\e=0/\fr=(0,0))/\
   (∀ti,E.ty el=F ti->rest.length=e*ti.size):=by
 obtain⟨ob,h1,h2⟩:=hR.obj i _ b e hc hi
 cases h2 with
 |cells vs rest fr h hf hx he=>exact⟨vs,rest,fr,h1,h,hf,hx,he⟩
theorem ct {α:Type}:∀(n:Nat) (l:List α),cD n l=l.take n
 |0,_=>rfl
 |_+1,[]=>rfl
 |n+1,x :: xs=>by simp[cD,ct n xs]
theorem bu (hR:Rel E G ρ st w.heap) {i b e ofs n:Nat} (hi:ρ i=F (b,e)) {cs:List AV} (h:aA st i ofs n=F cs):
  ∃vs,(Go.loadCells ⟨b,ofs,H⟩ n).run E.P w= .ok ⟨vs⟩ w/\VRs ρ cs vs/\vs.length=n:=by
 unfold aA at h
 split at h
 ·rename_i all el x hg
  obtain⟨vs,rest,fr,h1,h2,h3,h4,h5⟩:=a7 hR hi hg
  dsimp only at h
  split at h
  ·rename_i hl
   cases h
   have hv:=(h2.drop ofs).take n
   have hlen:=hv.length
   rw[hl]at hlen
   have e1:((vs++rest).drop ofs).take n=(vs.drop ofs).take n:=by
    have:ofs+n<=vs.length\/n=0:=by
     simp at hlen;omega
    rcases this with h|h
    ·rw[List.drop_append_of_le_length (by omega),List.take_append_of_le_length (by simp;omega)]
    ·subst h;simp
   refine⟨(vs.drop ofs).take n,?_,hv,hlen.symm⟩
   have:=bO (P:=E.P) w b ofs n h1 (by rw[e1];exact hlen.symm)
   rw[this,e1]
  ·cases h
 ·cases h
theorem jI (hR:Rel E G ρ st w.heap) {i b e ofs:Nat} (hi:ρ i=F (b,e)) {v:AV} (h:a8 ofs (st.h.get i)=F v):
  ∃x,w.cell? ⟨b,ofs,H⟩=F x/\VR ρ v x:=by
 unfold a8 at h
 split at h
 ·rename_i ob hg
  split at h<;>try cases h
  case h_2=>
   rename_i k cs
   obtain⟨oc,h1,h2⟩:=hR.obj _ _ _ _ hg hi
   cases h2 with
   |ro vs el fr h2=>
    obtain⟨y,hy,hv⟩:=h2.get h
    exact⟨y,by rw[dJ w b _ h1];exact hy,hv⟩
  rename_i cs el x
  obtain⟨vs,rest,fr,h1,h2,h3,h4,h5⟩:=a7 hR hi hg
  obtain⟨y,hy,hv⟩:=h2.get h
  refine⟨y,?_,hv⟩
  rw[dJ w b _ h1,List.getElem?_append_left]
  ·exact hy
  ·rcases Nat.lt_or_ge ofs vs.length with h'|h'
   ·exact h'
   ·simp[List.getElem?_eq_none h']at hy
 ·cases h
theorem kd (hR:Rel E G ρ st w.heap) {i b e ofs:Nat} {t:S} {ti:TI} (ht:TIOK E.P t ti) (hi:ρ i=F (b,e)) {v:AV} (h:jb st i ofs ti.size ti.k=F v):
  ∃x,(loadVar t ⟨b,ofs,H⟩).run E.P w= .ok x w/\VR ρ v x:=by
 have hag:=ht.agg
 have hka:=eG ht.known w
 have hsz:=ab ht.known w
 have scal:∀{v:AV},av E.P t=false->a8 ofs (st.h.get i)=F v->∃x,(loadVar t ⟨b,ofs,H⟩).run E.P w= .ok x w/\VR ρ v x:=by
  intro v hf hc
  obtain⟨x,h1,h2⟩:=jI hR hi hc
  refine⟨x,?_,h2⟩
  simp[loadVar,J,hka,hf,h1]
 have aggr:∀{v:AV},av E.P t=true->cN (aA st i ofs ti.size)=F v->∃x,(loadVar t ⟨b,ofs,H⟩).run E.P w= .ok x w/\VR ρ v x:=by
  intro v hf hc
  unfold cN at hc
  split at hc
  ·rename_i cs hcs
   cases hc
   obtain⟨vs,h1,h2,h3⟩:=bu hR hi hcs
   refine⟨.agg ⟨vs⟩,?_, .agg h2⟩
   simp[loadVar,J,hka,hf,hsz,ht.size,h1]
  ·cases hc
 unfold jb at h
 split at h<;>rename_i hk<;>rw[hk]at hag<;>first|exact aggr hag h|exact scal hag h
theorem hL (hOK:EOK E) (hR:Rel E G ρ st w.heap) {t:S} {p:AV} {y:N} (hp:VR ρ p y) {v:AV} (h:e9 E t p st=F v):
  ∃b ofs x,y= .pointer (F ⟨b,ofs,H⟩)/\(loadVar t ⟨b,ofs,H⟩).run E.P w= .ok x w/\VR ρ v x:=by
 unfold e9 at h
 split at h
 ·cases hp with
  |ptr hi=>
  unfold gx at h
  split at h
  ·cases h
  ·rename_i ti hti
   obtain⟨x,h1,h2⟩:=kd hR (hOK.ty _ _ hti) hi h
   exact⟨_,_,x,rfl,h1,h2⟩
 ·cases h
theorem bU (hR:Rel E G ρ st w.heap) {i b e ofs:Nat} (hi:ρ i=F (b,e)) {us:List AV} {xs:List N} (hx:VRs ρ us xs) {st':St} (h:dc st i ofs us=F st'):
  ∃w',(Go.storeCells ⟨b,ofs,H⟩ xs).run E.P w= .ok () w'/\Mv E G ρ st w ρ st' w':=by
 unfold dc at h
 split at h
 ·cases hx;cases h;exact⟨w,by simp[Go.storeCells],Mv.refl hR⟩
 ·rename_i u us
  split at h
  ·rename_i hall
   split at h
   ·rename_i cs el x hg
    split at h
    ·rename_i cs' hp
     cases h
     obtain⟨vs,rest,fr,h1,h2,h3,h4,h5⟩:=a7 hR hi hg
     rcases h2.put hx hp with⟨h6,h7⟩|⟨h6,_⟩
     ·obtain⟨w',hr,hb,hs,ho,hsame⟩:=bL (P:=E.P) b ofs el fr xs (vs++rest) 0 w h1 (by simpa using h3) (by simp;omega) (hx.cellsV hall)
      refine⟨w',hr,?_⟩
      have hl:(vs++rest).take (ofs+0)++xs++(vs++rest).drop (ofs+0+xs.length)=(vs.take ofs++xs++vs.drop (ofs+xs.length))++rest:=by
       simp only[Nat.add_zero]
       rw[List.take_append_of_le_length (by omega),List.drop_append_of_le_length (by omega)]
       simp
      rw[hl]at hb
      have hlen:(vs.take ofs++xs++vs.drop (ofs+xs.length)).length=vs.length:=by simp;omega
      obtain⟨r1,r2⟩:=hR.upd (o':= .cells cs' el x) hg hi hs ho hb (.cells _ rest fr h6 (by rw[hlen];exact h3) h4 h5)
      exact⟨r1,r2,hsame,rfl⟩
     ·cases h6
    ·cases h
   ·cases h
  ·cases h
theorem jn (hOK:EOK E) (hR:Rel E G ρ st w.heap) {t:S} {p v:AV} {y x:N} (hp:VR ρ p y) (hv:VR ρ v x) {st':St} (h:iX E t p v st=F st'):
  ∃w',(Instr.storeAt t y x).run E.P w= .ok () w'/\Mv E G ρ st w ρ st' w':=by
 unfold iX at h
 split at h
 ·cases hp with
  |ptr hi=>
  split at h
  ·rename_i ti hti
   split at h
   ·rename_i cs hcs
    split at h
    ·rename_i hb
     have hl:=U hb
     have ht:=hOK.ty _ _ hti
     have hvs:=hv.cells hcs
     obtain⟨w',h1,h2⟩:=bU hR hi hvs h
     refine⟨w',?_,h2⟩
     have hsz:=ab ht.known w
     have hlen:x.cells.size=E.P.cellsOf t:=by
      rw[ht.size,<-hl,hvs.length];simp
     simp[Instr.storeAt,Instr.sureAddr,storeVar,J,hsz,hlen]
     simpa using h1
    ·cases h
   ·cases h
  ·cases h
 ·cases h
end
end
section
section
variable {E:Env} {G:aD} {ρ:aj} {st:St} {w:aa} {T:Tr AV} {a:Act} {o:Z}
theorem bl.of_value {s:Sem N} {v:AV} {st':St} (h:∃x w' ρ',s.run E.P w= .ok x w'/\VR ρ' v x/\Mv E G ρ st w ρ' st' w'):
  bl E G ρ st w ((do let y<-s;pure (.value y):Sem Next).run E.P w) (.val v st'):=by
 obtain⟨x,w',ρ',h1,h2,h3⟩:=h
 exact⟨x,w',ρ',by simp[h1],h2,h3⟩
theorem bl.of_still {s:Sem N} {v:AV} (hR:Rel E G ρ st w.heap) (h:∃x,s.run E.P w= .ok x w/\VR ρ v x):
  bl E G ρ st w ((do let y<-s;pure (.value y):Sem Next).run E.P w) (.val v st):=by
 obtain⟨x,h1,h2⟩:=h
 exact .of_value ⟨x,w,ρ,h1,h2,Mv.refl hR⟩
theorem bl.of_skip {s:Sem Unit} {st':St} (h:∃w' ρ',s.run E.P w= .ok () w'/\Mv E G ρ st w ρ' st' w'):
  bl E G ρ st w ((do s;pure .skip:Sem Next).run E.P w) (.skip st'):=by
 obtain⟨w',ρ',h1,h2⟩:=h
 exact⟨w',ρ',by simp[h1],h2⟩
theorem Mv.new {w':aa} (hR:Rel E G ρ st w.heap) {ob:AObj} {b:Obj} {e:Nat} (hw:w'.heap=w.heap.push b) (hs:Same w w') (ho:OR E G ρ e ob b):
  Mv E G ρ st w (aK ρ st.n w.heap.size e) (st.new ob) w':=by
 obtain⟨h1,h2⟩:=hR.new (h':=w'.heap) (o:=ob) (b:=w.heap.size) (e:=e) (ob:=b) (by rw[hw];simp) (by
  intro c hc hlt
  rw[hw,Array.getElem?_push,if_neg hc]) (by rw[hw];simp) ho (λi e' _ hr=>by have:=hR.below i _ e' hr;omega)
 exact⟨h1,h2 (Nat.le_refl _),hs,rfl⟩
theorem fR (hR:Rel E G ρ st w.heap) (hE:ER ρ T a.tmps) {x:W} (hx:ac E.P.globals.size x=true):
  bl E G ρ st w ((pure (.value (a.eval x)):Sem Next).run E.P w) (c9 E o T st x):=
 ⟨a.eval x,w,ρ,rfl,VR.evalO hE (λi hi=>hR.glob i hi) hx,Mv.refl hR⟩
theorem jv (hR:Rel E G ρ st w.heap) (hE:ER ρ T a.tmps) {c x y:W} (hc:ac E.P.globals.size c=true) (hx:ac E.P.globals.size x=true) (hy:ac E.P.globals.size y=true):
  bl E G ρ st w ((do pure (.value (if<-asBool (a.eval c)then a.eval x else a.eval y)):Sem Next).run E.P w) (dX E o T st c x y):=by
 have h1:=VR.evalO hE (λi hi=>hR.glob i hi) hc
 unfold dX
 split
 ·rename_i b hb
  rw[hb]at h1
  generalize a.eval c=z at h1
  cases h1
  cases b
  ·exact⟨a.eval y,w,ρ,by simp[asBool],VR.evalO hE (λi hi=>hR.glob i hi) hy,Mv.refl hR⟩
  ·exact⟨a.eval x,w,ρ,by simp[asBool],VR.evalO hE (λi hi=>hR.glob i hi) hx,Mv.refl hR⟩
 ·trivial
theorem jM (hOK:EOK E) (hR:Rel E G ρ st w.heap) (hE:ER ρ T a.tmps) {t:S} {x:W} (hx:ac E.P.globals.size x=true):
  bl E G ρ st w ((do let y<-Instr.loadAt t (a.eval x);pure (.value y):Sem Next).run E.P w) (c7 E o T st t x):=by
 unfold c7
 split
 ·rename_i v hv
  obtain⟨b,ofs,y,h1,h2,h3⟩:=hL hOK hR (VR.evalO hE (λi hi=>hR.glob i hi) hx) hv
  exact .of_still hR ⟨y,by rw[h1];simpa[Instr.loadAt,Instr.sureAddr]using h2,h3⟩
 ·trivial
theorem iL (hOK:EOK E) (hR:Rel E G ρ st w.heap) (hE:ER ρ T a.tmps) {t:S} {x y:W} (hx:ac E.P.globals.size x=true) (hy:ac E.P.globals.size y=true):
  bl E G ρ st w ((do Instr.storeAt t (a.eval x) (a.eval y);pure .skip:Sem Next).run E.P w) (dy E o T st t x y):=by
 unfold dy
 split
 ·rename_i v hv
  obtain⟨w',h1,h2⟩:=jn hOK hR (VR.evalO hE (λi hi=>hR.glob i hi) hx) (VR.evalO hE (λi hi=>hR.glob i hi) hy) hv
  exact .of_skip ⟨w',ρ,h1,h2⟩
 ·trivial
theorem cE {P:Program}:∀{l:List Field} {i fo sz:Nat},cb (l.map λf=>(f.offset,P.cellsOf f.type,av P f.type)) i=F (fo,sz)->
  ∃f,l[i]?=F f/\f.offset=fo/\P.cellsOf f.type=sz
 |[],i,_,_,h=>by simp[cb]at h
 |f :: l,i,fo,sz,h=>by
  cases i with
  |zero=>simp[cb]at h;exact⟨f,by simp,h.1,h.2⟩
  |succ i=>simp at h;simpa using cE h
theorem cf {P:Program}:∀{l:List Field} {i fo sz:Nat} {ag:Bool},cz (l.map λf=>(f.offset,P.cellsOf f.type,av P f.type)) i=F (fo,sz,ag)->
  ∃f,l[i]?=F f/\f.offset=fo/\P.cellsOf f.type=sz/\av P f.type=ag
 |[],i,_,_,_,h=>by simp[cz]at h
 |f :: l,i,fo,sz,ag,h=>by
  cases i with
  |zero=>simp[cz]at h;exact⟨f,by simp,h.1,h.2.1,h.2.2⟩
  |succ i=>simp at h;simpa using cf h
theorem eU (hOK:EOK E) (hR:Rel E G ρ st w.heap) (hE:ER ρ T a.tmps) {t:S} {x:W} {f:Nat} (hx:ac E.P.globals.size x=true):
  bl E G ρ st w ((do let y<-Instr.fieldAt t (a.eval x) f;pure (.value y):Sem Next).run E.P w) (aX E o T st t x f):=by
 have h1:=VR.evalO hE (λi hi=>hR.glob i hi) hx
 unfold aX
 split
 ·rename_i ti i off hti hp
  rw[hp]at h1
  generalize a.eval x=z at h1
  cases h1 with
  |ptr hi=>
  obtain⟨d,hk,hu⟩:=(hOK.ty _ _ hti).run_underlying
  split
  ·rename_i fs hfs
   rw[hfs]at hk
   obtain⟨fields,rfl,rfl,hkn⟩:=hk
   split
   ·rename_i fo sz hfo
    obtain⟨fl,h2,h3,h4⟩:=cE hfo
    split
    ·trivial
    ·rename_i hsz
     have h2':fields[f]?=F fl:=by simpa using h2
     have hmem:fl∈fields:=Array.mem_of_getElem? h2'
     refine .of_still hR ⟨_,?_, .ptr hi⟩
     simp[Instr.fieldAt,hu,h2',Instr.sureAddr,fieldPlace,ab (hkn fl hmem),h4,hsz,a3,h3]
   ·trivial
  ·trivial
 ·trivial
theorem aR {v:AV} {x:N} {n:Int} (h:VR ρ v x) (hn:bq v=F n):∃k,x= .int k n:=by
 unfold bq at hn
 split at hn
 ·cases hn;cases h;exact⟨_,rfl⟩
 ·cases hn;cases h;exact⟨_,rfl⟩
 ·cases hn
theorem fh (hOK:EOK E) (hR:Rel E G ρ st w.heap) (hE:ER ρ T a.tmps) {t:S} {x ix:W} (hx:ac E.P.globals.size x=true) (hix:ac E.P.globals.size ix=true):
  bl E G ρ st w ((do let y<-Instr.indexAt t (a.eval x) (a.eval ix);pure (.value y):Sem Next).run E.P w) (aY E o T st t x ix):=by
 have h1:=VR.evalO hE (λi hi=>hR.glob i hi) hx
 have h2:=VR.evalO hE (λi hi=>hR.glob i hi) hix
 unfold aY
 split
 ·rename_i v hv
  unfold fj at hv
  split at hv
  ·rename_i i ti hi hti
   obtain⟨k,hk⟩:=aR h2 hi
   obtain⟨d,hd,hu⟩:=(hOK.ty _ _ hti).run_underlying
   rw[hk]
   generalize V T x=u at h1 hv
   generalize a.eval x=z at h1
   split at hv
   ·rename_i n es ea b off htk
    rw[htk]at hd
    obtain⟨e,rfl,rfl,_,hkn⟩:=hd
    split at hv
    ·rename_i hb
     cases hv
     cases h1 with
     |ptr hr=>
     refine .of_still hR ⟨_,?_, .ptr hr⟩
     simp[Instr.indexAt,asIntOf,hu,Instr.sureAddr,hb,ab hkn,a3]
    ·cases hv
   ·rename_i el es by_ b off len cap ex htk
    rw[htk]at hd
    obtain⟨rfl,rfl,_,hkn⟩:=hd
    split at hv
    ·rename_i hb
     cases hv
     cases h1 with
     |sl hr=>
     refine .of_still hR ⟨_,?_, .ptr hr⟩
     simp[Instr.indexAt,asIntOf,hu,hb,ab hkn,a3]
    ·cases hv
   ·cases hv
  ·cases hv
 ·trivial
theorem TIOK.zero_run {t:S} {ti:TI} (h:TIOK E.P t ti) (w:aa):∃z,(zeroValue t).run E.P w= .ok z w/\(∀ρ,VRs ρ ti.zero z.cells.toList)/\z.cells.size=ti.size/\
  (∀ρ,VR ρ (match ti.k with| .struct _| .array ..=>AV.agg ti.zero|_=>(ti.zero.head?).getD ax) z):=by
 have hag:=h.agg
 obtain⟨d,info,z,h1,h2,h3,h4,h5,h6,h7,h8⟩:=h.ex
 refine⟨z,by simp[zeroValue,typeInfo,h2,h4],λρ=>by rw[h5];exact VRs.mkVal ρ _,h6,λρ=>?_⟩
 have scal:av E.P t=false->VR ρ ((ti.zero.head?).getD ax) z:=by
  intro hf
  have hn:¬∃c,z= .agg c:=λhc=>by rw[h7.1 hc]at hf;cases hf
  have hc:z.cells=#[z]:=by
   cases z<;>first|rfl|exact absurd ⟨_,rfl⟩ hn
  rw[h5,hc]
  exact VR.mkVal ρ z
 have aggr:av E.P t=true->VR ρ (.agg ti.zero) z:=by
  intro hf
  obtain⟨c,rfl⟩:=h7.2 hf
  rw[h5]
  exact .agg (VRs.mkVal ρ c.toList)
 cases hk:ti.k<;>rw[hk]at hag<;>first|exact aggr hag|exact scal hag
theorem d5 (n:Nat):gn n (0,0):=λoff _ h=>by omega
theorem OR.exact {e:Nat} {cs:List AV} {vs:List N} (el:S) (x:Bool) (h:VRs ρ cs vs) (he:e=0):OR E G ρ e (.cells cs el x) (.cells ⟨vs⟩ el):=by
 subst he
 have:=OR.cells (E:=E) (G:=G) (ρ:=ρ) (e:=0) (cs:=cs) (el:=el) (x:=x) vs [] (0,0) h (d5 _) (λ_=>⟨rfl,rfl,rfl⟩) (λ_ _=>by simp)
 simpa using this
theorem cL (hR:Rel E G ρ st w.heap) {cs:List AV} {vs:List N} (el:S) (h:VRs ρ cs vs) (x:Bool):
  ∃w',(newRow el ⟨vs⟩).run E.P w= .ok ⟨w.heap.size,0,H⟩ w'/\Mv E G ρ st w (aK ρ st.n w.heap.size 0) (st.new (.cells cs el x)) w':=by
 refine⟨{w with heap:=w.heap.push (.cells ⟨vs⟩ el)},by simp[newRow],Mv.new hR (b:= .cells ⟨vs⟩ el) rfl ⟨rfl,rfl,rfl⟩ (.exact el x h rfl)⟩
theorem iz (hOK:EOK E) (hR:Rel E G ρ st w.heap) {t:S}:
  bl E G ρ st w ((do let y<-Instr.alloc t true (.tuple #[]);pure (.value y):Sem Next).run E.P w) (cV E o T st t):=by
 unfold cV
 split
 ·rename_i ti hti
  obtain⟨z,h1,h2,h3,_⟩:=(hOK.ty _ _ hti).zero_run w
  obtain⟨w',h4,h5⟩:=cL hR t (h2 ρ) false
  refine .of_value ⟨_,w',_,?_, .ptr (ae ρ st.n w.heap.size 0),h5⟩
  simp[Instr.alloc,h1,newVar]
  rw[show z.cells=⟨z.cells.toList⟩from rfl,h4]
  simp
 ·trivial
theorem j4 (hR:Rel E G ρ st w.heap) (hE:ER ρ T a.tmps) {t:S} {x:W} (hx:ac E.P.globals.size x=true):
  bl E G ρ st w ((do let y<-Instr.box t (a.eval x);pure (.value y):Sem Next).run E.P w) (eF E o T st t x):=by
 have h1:=VR.evalO hE (λi hi=>hR.glob i hi) hx
 unfold eF
 split
 ·rename_i cs hcs
  obtain⟨w',h4,h5⟩:=cL hR t (h1.cells hcs) false
  refine .of_value ⟨_,w',_,?_, .ptr (ae ρ st.n w.heap.size 0),h5⟩
  simp[Instr.box,newVar]
  rw[show(a.eval x).cells=⟨(a.eval x).cells.toList⟩from rfl,h4]
  simp
 ·trivial
theorem fE (hR:Rel E G ρ st w.heap) (hE:ER ρ T a.tmps) {x:W} (hop:o.op= .nilCheck x) (hx:ac E.P.globals.size x=true):
  bl E G ρ st w ((execOp a.eval o).run E.P w) (bf E o T st x):=by
 have h1:=VR.evalO hE (λi hi=>hR.glob i hi) hx
 simp only[execOp,hop]
 unfold bf
 generalize V T x=u at h1⊢
 generalize a.eval x=z at h1⊢
 cases h1<;>try trivial
 case ptr h=>exact⟨_,w,ρ,rfl, .ptr h,Mv.refl hR⟩
 case fn h h'=>exact⟨_,w,ρ,rfl, .fn h h',Mv.refl hR⟩
 case yld h=>exact⟨_,w,ρ,rfl, .yld h,Mv.refl hR⟩
 case val=>
  cases z<;>try trivial
  rename_i f _ _
  cases f<;>try trivial
  exact⟨_,w,ρ,rfl, .val _,Mv.refl hR⟩
theorem gw (hR:Rel E G ρ st w.heap) (hE:ER ρ T a.tmps) {x:W} {i:Nat} (hx:ac E.P.globals.size x=true):
  bl E G ρ st w ((do let y<-Instr.extract (a.eval x) i;pure (.value y):Sem Next).run E.P w) (bz E o T st x i):=by
 have h1:=VR.evalO hE (λi hi=>hR.glob i hi) hx
 unfold bz
 split
 ·rename_i vs hp
  rw[hp]at h1
  generalize a.eval x=z at h1
  cases h1 with
  |tup h=>
  split
  ·rename_i v hv
   obtain⟨y,h2,h3⟩:=h.get hv
   refine .of_still hR ⟨y,?_,h3⟩
   simp[Instr.extract,h2]
  ·trivial
 ·trivial
theorem dA {P:Program} {t:S} (h:bC P t=true) (cs:List N) (off:Nat) (w:aa):
  (part t ⟨cs⟩ off).run P w=if av P t then .ok (.agg ⟨(cs.drop off).take (P.cellsOf t)⟩) w else match cs[off]? with|some v=> .ok v w|none=> .halt (.stuck "part: no such cell") w:=by
 simp only[part,J,eG h,I,Sem.run_ite,ab h,O]
 cases av P t with
 |true=>
  simp only[if_true]
  congr 2
  apply Array.ext'
  simp[List.take_drop]
 |false=>
  simp
  split<;>rename_i h'<;>simp[h']
theorem iw (hOK:EOK E) (hR:Rel E G ρ st w.heap) (hE:ER ρ T a.tmps) {t:S} {x:W} {f:Nat} (hx:ac E.P.globals.size x=true):
  bl E G ρ st w ((do let y<-Instr.field t (a.eval x) f;pure (.value y):Sem Next).run E.P w) (cP E o T st t x f):=by
 have h1:=VR.evalO hE (λi hi=>hR.glob i hi) hx
 unfold cP
 split
 ·rename_i ti cs hti hp
  rw[hp]at h1
  generalize a.eval x=z at h1
  cases h1 with
  |@agg _ vs hc=>
  obtain⟨d,hk,hu⟩:=(hOK.ty _ _ hti).run_underlying
  split
  ·rename_i fs hfs
   rw[hfs]at hk
   obtain⟨fields,rfl,rfl,hkn⟩:=hk
   split
   ·rename_i fo sz hfo
    obtain⟨fl,h2,h3,h4,h5⟩:=cf hfo
    have h2':fields[f]?=F fl:=by simpa using h2
    have hmem:fl∈fields:=Array.mem_of_getElem? h2'
    dsimp only
    split
    ·rename_i hl
     refine .of_still hR ⟨.agg ⟨(vs.drop fo).take sz⟩,?_, .agg ((hc.drop fo).take sz)⟩
     simp[Instr.field,hu,h2',asAgg,dA (hkn fl hmem),h5,h4,h3]
    ·trivial
   ·rename_i fo sz hfo
    obtain⟨fl,h2,h3,h4,h5⟩:=cf hfo
    have h2':fields[f]?=F fl:=by simpa using h2
    have hmem:fl∈fields:=Array.mem_of_getElem? h2'
    split
    ·rename_i v hv
     obtain⟨y,hy,hvr⟩:=hc.get hv
     refine .of_still hR ⟨y,?_,hvr⟩
     simp[Instr.field,hu,h2',asAgg,dA (hkn fl hmem),h5,h3,hy]
    ·trivial
   ·trivial
  ·trivial
 ·trivial
theorem iP (hOK:EOK E) (hR:Rel E G ρ st w.heap) (hE:ER ρ T a.tmps) (ho:ao E.P.globals.size o=true) {t:S} {x ix:W} (hop:o.op= .index t x ix) (hx:ac E.P.globals.size x=true)
  (hix:ac E.P.globals.size ix=true):bl E G ρ st w ((execOp a.eval o).run E.P w) (cU E o T st t x ix):=by
 have h1:=VR.evalO hE (λi hi=>hR.glob i hi) hx
 have h2:=VR.evalO hE (λi hi=>hR.glob i hi) hix
 have hpure:=aS hR hE ho
 unfold cU
 split
 ·rename_i cs hp
  simp only[execOp,hop]
  rw[hp]at h1
  generalize a.eval x=z at h1
  cases h1 with
  |@agg _ vs hc=>
  split
  ·rename_i ti i hti hi
   obtain⟨k,hk⟩:=aR h2 hi
   rw[hk]
   obtain⟨d,hd,hu⟩:=(hOK.ty _ _ hti).run_underlying
   split
   ·rename_i n es ea htk
    rw[htk]at hd
    obtain⟨e,rfl,rfl,rfl,hkn⟩:=hd
    split
    ·rename_i hb
     split
     ·rename_i hag
      split
      ·refine .of_still hR ⟨.agg ⟨(vs.drop (i.toNat*E.P.cellsOf e)).take (E.P.cellsOf e)⟩,?_, .agg ((hc.drop _).take _)⟩
       simp[Instr.index,asIntOf,hu,hb,ab hkn,dA hkn,hag]
      ·trivial
     ·rename_i hag
      split
      ·rename_i v hv
       obtain⟨y,hy,hvr⟩:=hc.get hv
       refine .of_still hR ⟨y,?_,hvr⟩
       simp[Instr.index,asIntOf,hu,hb,ab hkn,dA hkn,hag,hy]
      ·trivial
    ·trivial
   ·trivial
  ·trivial
 ·exact hpure
theorem VRs.evalL (hR:Rel E G ρ st w.heap) (hE:ER ρ T a.tmps):∀{xs:List W},(∀x∈xs,ac E.P.globals.size x=true)->VRs ρ (xs.map (V T)) (xs.map a.eval)
 |[],_=> .nil
 |x :: xs,h=> .cons (VR.evalO hE (λi hi=>hR.glob i hi) (h x (List.mem_cons_self ..))) (VRs.evalL hR hE λy hy=>h y (List.mem_cons_of_mem _ hy))
theorem fD (hR:Rel E G ρ st w.heap) (hE:ER ρ T a.tmps) {f:Fn} {xs ys:Array W} (hx:∀x∈xs,ac E.P.globals.size x=true) (hy:∀x∈ys,ac E.P.globals.size x=true):
  bl E G ρ st w ((do let y<-Instr.makeFunc f (xs.map a.eval) (ys.map a.eval);pure (.value y):Sem Next).run E.P w) (bc E o T st f xs ys):=by
 unfold bc
 split
 ·rename_i g
  refine .of_still hR ⟨.func (.func g) ⟨xs.toList.map a.eval⟩ ⟨ys.toList.map a.eval⟩,?_, .fn (VRs.evalL hR hE λx h=>hx x (by simpa using h)) (VRs.evalL hR hE λx h=>hy x (by simpa using h))⟩
  simp[Instr.makeFunc]
  constructor<;>(apply Array.ext';simp)
 ·trivial
theorem c8 (hOK:EOK E) (hR:Rel E G ρ st w.heap) (hE:ER ρ T a.tmps) {t:S} {x:W} (hx:ac E.P.globals.size x=true):
  bl E G ρ st w ((do let y<-Instr.makeInterface t (a.eval x);pure (.value y):Sem Next).run E.P w) (ap E o T st t x):=by
 have h1:=VR.evalO hE (λi hi=>hR.glob i hi) hx
 unfold ap
 split
 ·rename_i ti hti
  obtain⟨d,hd,hu⟩:=(hOK.ty _ _ hti).run_underlying
  split
  ·trivial
  ·rename_i hne
   refine .of_still hR ⟨.iface t (a.eval x),?_, .ifc h1⟩
   simp only[Instr.makeInterface,J,hu,I]
   cases hk:ti.k<;>rw[hk]at hd<;>simp only[ir]at hd
   ·subst hd;rfl
   ·obtain⟨_,rfl,_⟩:=hd;rfl
   ·obtain⟨_,_,_,rfl⟩:=hd;rfl
   ·obtain⟨_,rfl,_⟩:=hd;rfl
   ·obtain⟨_,rfl,_⟩:=hd;rfl
   ·obtain⟨rfl,_⟩:=hd;rfl
   ·exact absurd hk hne
   ·subst hd;rfl
   ·subst hd;rfl
   ·cases d<;>first|rfl|exact hd.elim
 ·trivial
theorem iq (hR:Rel E G ρ st w.heap) (hE:ER ρ T a.tmps) {x:W} (hx:ac E.P.globals.size x=true):
  bl E G ρ st w ((do let y<-Instr.panic (a.eval x);pure (.value y):Sem Next).run E.P w) (dB E o T st x):=by
 have h1:=VR.evalO hE (λi hi=>hR.glob i hi) hx
 unfold dB
 generalize a.eval x=z at h1
 split<;>rename_i hp<;>first|trivial|(rw[hp]at h1)
 ·cases h1 with|ifc h=>exact⟨rfl,_,by simp[Instr.panic], .ifc h⟩
 ·cases h1;exact⟨rfl,_,by simp[Instr.panic], .val _⟩
end
end
section
section
variable {E:Env} {G:aD} {ρ:aj} {st:St} {w:aa} {T:Tr AV} {a:Act} {o:Z}
theorem bj (n:Int):bM n=IntKind.i64.wrap n:=by
 cases n with
 |ofNat m=>
  show @Bool.rec (λ_=>Int) (IntKind.i64.wrap (Int.ofNat m)) (Int.ofNat m) (Nat.blt m 9223372036854775808)=_
  cases h:Nat.blt m 9223372036854775808 with
  |false=>rfl
  |true=>
   have:m<9223372036854775808:=by simpa[Nat.blt_eq]using h
   show Int.ofNat m=(if(true&&decide (Int.ofNat m % 18446744073709551616>=9223372036854775808))=true then Int.ofNat m % 18446744073709551616 - 18446744073709551616 else Int.ofNat m % 18446744073709551616)
   have e:Int.ofNat m % 18446744073709551616=Int.ofNat m:=by
    apply Int.emod_eq_of_lt<;>(simp;try omega)
   rw[e]
   simp
   intro h'
   omega
 |negSucc m=>
  show @Bool.rec (λ_=>Int) (IntKind.i64.wrap (Int.negSucc m)) (Int.negSucc m) (Nat.blt m 9223372036854775808)=_
  cases h:Nat.blt m 9223372036854775808 with
  |false=>rfl
  |true=>
   have:m<9223372036854775808:=by simpa[Nat.blt_eq]using h
   show Int.negSucc m=(if(true&&decide (Int.negSucc m % 18446744073709551616>=9223372036854775808))=true then Int.negSucc m % 18446744073709551616 - 18446744073709551616 else Int.negSucc m % 18446744073709551616)
   have e:Int.negSucc m % 18446744073709551616=Int.negSucc m+18446744073709551616:=by
    rw[<-Int.add_emod_right (Int.negSucc m) 18446744073709551616]
    apply Int.emod_eq_of_lt<;>omega
   rw[e]
   have:Int.negSucc m+18446744073709551616>=9223372036854775808:=by omega
   simp[this]
theorem cS (a b:Int):iF a b=decide (a<b):=by
 cases a<;>cases b
 ·rename_i x y
  show Nat.blt x y=_
  rw[Bool.eq_iff_iff];simp[Nat.blt_eq]
 ·rename_i x y
  show false=_
  rw[Bool.eq_iff_iff];simp;omega
 ·rename_i x y
  show true=_
  rw[Bool.eq_iff_iff];simp;omega
 ·rename_i x y
  show Nat.blt y x=_
  rw[Bool.eq_iff_iff];simp[Nat.blt_eq];omega
theorem dP (a b:Int):eo a b=(a==b):=by
 cases a<;>cases b
 ·rename_i x y
  show Nat.beq x y=_
  rw[Bool.eq_iff_iff];simp;omega
 ·rename_i x y
  show false=_
  rw[Bool.eq_iff_iff];simp
 ·rename_i x y
  show false=_
  rw[Bool.eq_iff_iff];simp
 ·rename_i x y
  show Nat.beq x y=_
  rw[Bool.eq_iff_iff];simp
theorem gW (op:BinOp) (t:S) (x y:W) (k q:IntKind) (m n:Int) (w:aa):(eqGuard op t x y (.int k m) (.int q n)).run E.P w= .ok () w:=by
 unfold eqGuard
 cases op<;>rfl
theorem iQ (hR:Rel E G ρ st w.heap) (hE:ER ρ T a.tmps) (ho:ao E.P.globals.size o=true) {op:BinOp} {t yt:S} {x y:W} (hop:o.op= .binOp op t x y yt)
  {m n:Int} (hm:a.eval x= .int .i64 m) (hn:a.eval y= .int .i64 n):bl E G ρ st w ((execOp a.eval o).run E.P w) (a4 E o T st (dU op m n)):=by
 have hpure:=aS hR hE ho
 have hrun:(execOp a.eval o).run E.P w=((binOp op t (.int .i64 m) (.int .i64 n)).run E.P w).andThen λv w'=> .ok (.value v) w':=by
  simp only[execOp,hop,hm,hn,J,gW,I,O]
 have num:∀z,(binOp op t (.int .i64 m) (.int .i64 n)).run E.P w= .ok (.int .i64 z) w->bl E G ρ st w ((execOp a.eval o).run E.P w) (.val (.num z) st):=by
  intro z hz
  exact⟨_,w,ρ,by rw[hrun,hz];rfl, .num z,Mv.refl hR⟩
 have bool:∀z,(binOp op t (.int .i64 m) (.int .i64 n)).run E.P w= .ok (.bool z) w->bl E G ρ st w ((execOp a.eval o).run E.P w) (.val (.bool z) st):=by
  intro z hz
  exact⟨_,w,ρ,by rw[hrun,hz];rfl, .bool z,Mv.refl hR⟩
 cases op
 case add=>exact num _ (by rw[bj];rfl)
 case sub=>exact num _ (by rw[bj];rfl)
 case mul=>exact num _ (by rw[bj];rfl)
 case quo=>
  show bl E G ρ st w _ (a4 E o T st (@Bool.rec (λ_=>AV) (.num (bM (Int.tdiv m n))) .top (eo n 0)))
  cases h:eo n 0 with
  |true=>exact hpure
  |false=>
   rw[dP]at h
   have hne:n≠0:=by simpa using h
   exact num _ (by rw[bj];simp[binOp,Op.intDiv,hne])
 case rem=>
  show bl E G ρ st w _ (a4 E o T st (@Bool.rec (λ_=>AV) (.num (Int.tmod m n)) .top (eo n 0)))
  cases h:eo n 0 with
  |true=>exact hpure
  |false=>
   rw[dP]at h
   have hne:n≠0:=by simpa using h
   exact num _ (by simp[binOp,Op.intDiv,hne])
 case eql=>exact bool _ (by rw[dP];rfl)
 case neq=>exact bool _ (by rw[dP];rfl)
 case lss=>exact bool _ (by rw[cS];rfl)
 case leq=>exact bool _ (by rw[cS];simp[binOp,Op.intCmp];rw[Bool.eq_iff_iff];simp)
 case gtr=>exact bool _ (by rw[cS];simp[binOp,Op.intCmp])
 case geq=>exact bool _ (by rw[cS];simp[binOp,Op.intCmp];rw[Bool.eq_iff_iff];simp)
 all_goals exact hpure
theorem jk (hR:Rel E G ρ st w.heap) {i p j q b c e e':Nat} (hi:ρ i=F (b,e)) (hj:ρ j=F (c,e')) {r:Bool} (h:dR st i p j q=F r):
  (sameAddr ⟨b,p,H⟩ ⟨c,q,H⟩).run E.P w= .ok r w:=by
 unfold dR at h
 split at h
 ·rename_i hb
  have:=U hb
  subst this
  rw[hi]at hj
  injection hj with hj
  injection hj with h1 h2
  subst h1
  cases h
  simp only[sameAddr,beq_self_eq_true,if_true,O]
  congr 1
  rw[Bool.eq_iff_iff]
  simp
 ·rename_i hb
  have hne:i≠j:=Nat.ne_of_beq_eq_false hb
  have live_of:∀k,dp st k=F false->∃cs el,st.h.get k=F (.cells cs el false):=by
   intro k hk
   unfold dp at hk
   split at hk
   ·rename_i cs el x hg;cases hk;exact⟨cs,el,hg⟩
   ·cases hk
  split at h
  ·rename_i hxi
   split at h
   ·rename_i hxj
    cases h
    obtain⟨cs,el,hg⟩:=live_of i hxi
    obtain⟨cs',el',hg'⟩:=live_of j hxj
    obtain⟨vs,rest,fr,h1,_,_,h2,_⟩:=a7 hR hi hg
    obtain⟨vs',rest',fr',h1',_,_,h2',_⟩:=a7 hR hj hg'
    obtain⟨hr1,_,hf1⟩:=h2 rfl
    obtain⟨hr2,_,hf2⟩:=h2' rfl
    subst hr1;subst hr2;subst hf1;subst hf2
    have hbc:b≠c:=λhbc=>hne (hR.inj i j b e e' ⟨_,hg⟩ ⟨_,hg'⟩ hi (hbc▸hj))
    have hbc':(b==c)=false:=by simpa using hbc
    simp[sameAddr,hbc',aa.frozen?,h1,h1',noView,viewAt,aa.shape?,mayBeOne,stringish]
   ·cases h
  ·cases h
theorem kM (hR:Rel E G ρ st w.heap) {t:S} {d:TypeDesc} {k:TK} (hd:ir E.P d k) (hu:∀w,(underlying t).run E.P w= .ok d w) {u v:AV} {x y:N} (hx:VR ρ u x) (hy:VR ρ v y) {r:Bool}
  (h:fy k u v st=F r) (n:Nat):(Op.equalIn (n+1) t x y).run E.P w= .ok r w/\¬(x= .nilIface/\y= .nilIface)/\¬((∃c,x= .agg c)/\∃c,y= .agg c):=by
 unfold fy at h
 split at h
 ·
  obtain⟨e,rfl,rfl,hkn⟩:=hd
  split at h
  ·split at h
   ·cases h
   ·rename_i hz
    have hz':=Nat.ne_of_beq_eq_false hz
    cases hx with|ptr hi=>
    cases hy with|ptr hj=>
    have:=jk hR hi hj h
    refine⟨?_,by simp,by simp⟩
    simp only[Op.equalIn,J,hu,I,ab hkn,Sem.run_ite]
    simp only[ne_eq,hz',not_false_eq_true,if_true]
    exact this
  ·cases h;cases hx with|ptr hi=>
   cases hy
   refine⟨?_,by simp,by simp⟩
   simp[Op.equalIn,hu]
  ·cases h;cases hy with|ptr hi=>
   cases hx
   refine⟨?_,by simp,by simp⟩
   simp[Op.equalIn,hu]
  ·cases h
 ·obtain⟨rfl,_⟩:=hd
  split at h
  ·cases h;cases hx with|sl hi=>
   cases hy
   exact⟨by simp[Op.equalIn,hu],by simp,by simp⟩
  ·cases h;cases hy with|sl hi=>
   cases hx
   exact⟨by simp[Op.equalIn,hu],by simp,by simp⟩
  ·cases h;cases hx;cases hy
   exact⟨by simp[Op.equalIn,hu],by simp,by simp⟩
  ·cases h;cases hx;cases hy
   exact⟨by simp[Op.equalIn,hu],by simp,by simp⟩
  ·cases h
 ·cases hd
  split at h
  ·cases h;cases hx with|mp hi=>
   cases hy
   exact⟨by simp[Op.equalIn,hu],by simp,by simp⟩
  ·cases h;cases hy with|mp hi=>
   cases hx
   exact⟨by simp[Op.equalIn,hu],by simp,by simp⟩
  ·cases h
 ·obtain⟨_,_,_,rfl⟩:=hd
  split at h
  ·cases h;cases hx;cases hy
   exact⟨by simp[Op.equalIn,hu],by simp,by simp⟩
  ·cases h;cases hx;cases hy
   exact⟨by simp[Op.equalIn,hu],by simp,by simp⟩
  ·cases h;cases hx;cases hy
   exact⟨by simp[Op.equalIn,hu],by simp,by simp⟩
  ·cases h;cases hx;cases hy
   exact⟨by simp[Op.equalIn,hu],by simp,by simp⟩
  ·cases h
 ·obtain⟨_,rfl⟩:=hd
  split at h
  ·cases h;cases hx;cases hy
   exact⟨by simp[Op.equalIn,hu],by simp,by simp⟩
  ·cases h;cases hx;cases hy
   exact⟨by simp[Op.equalIn,hu],by simp,by simp⟩
  ·split at h
   ·cases h
   ·rename_i hne
    have hne':=Nat.ne_of_beq_eq_false hne
    cases h;cases hx;cases hy
    exact⟨by simp[Op.equalIn,hu,hne'],by simp,by simp⟩
  ·cases h
 ·cases h
theorem fu {op:BinOp} {t:S} {x y:W} {u v:N} (h1:¬(u= .nilIface/\v= .nilIface)) (h2:¬((∃c,u= .agg c)/\∃c,v= .agg c)) (w:aa):
  (eqGuard op t x y u v).run E.P w= .ok () w:=by
 unfold eqGuard
 cases op<;>first
  |rfl
  |(cases u<;>first
    |rfl
    |(cases v<;>first|rfl|exact absurd ⟨rfl,rfl⟩ h1|exact absurd ⟨⟨_,rfl⟩,⟨_,rfl⟩⟩ h2))
theorem jB {t:S} {x y:N} {r:Bool} (h:(Op.equal t x y).run E.P w= .ok r w) (hi:¬∃k m q n,x= .int k m/\y= .int q n) (hs:¬∃m n,x= .string m/\y= .string n)
  (hf:¬∃k m,x= .float k m) (hc:¬∃k m n,x= .complex k m n):
  (binOp .eql t x y).run E.P w= .ok (.bool r) w/\(binOp .neq t x y).run E.P w= .ok (.bool !r) w:=by
 constructor
 ·unfold binOp
  split<;>simp_all
 ·unfold binOp
  split<;>simp_all
theorem kh (hOK:EOK E) (hR:Rel E G ρ st w.heap) (hE:ER ρ T a.tmps) (ho:ao E.P.globals.size o=true) {op:BinOp} {t yt:S} {x y:W} (hop:o.op= .binOp op t x y yt)
  {u v:AV} (hx:VR ρ u (a.eval x)) (hy:VR ρ v (a.eval y)):bl E G ρ st w ((execOp a.eval o).run E.P w) (aF E o op t u v T st):=by
 have hpure:=aS hR hE ho
 have main:∀r,kE E t u v st=F r->(execOp a.eval o).run E.P w=((binOp op t (a.eval x) (a.eval y)).run E.P w).andThen (λv w'=> .ok (.value v) w')/\
   (binOp .eql t (a.eval x) (a.eval y)).run E.P w= .ok (.bool r) w/\(binOp .neq t (a.eval x) (a.eval y)).run E.P w= .ok (.bool !r) w:=by
  intro r hr
  unfold kE at hr
  split at hr
  ·rename_i ti hti
   obtain⟨d,hd,hu⟩:=(hOK.ty _ _ hti).run_underlying
   obtain⟨h1,h2,h3⟩:=kM hR hd hu hx hy hr 9999
   refine⟨?_,jB h1 ?_ ?_ ?_ ?_⟩
   ·simp only[execOp,hop,J,fu h2 h3,I,O]
   all_goals
    intro hcon
    unfold fy at hr
    generalize a.eval x=X at hx hcon
    generalize a.eval y=Y at hy hcon
    split at hr<;>(try(split at hr))<;>first|(cases hr;done)|skip
    all_goals first|(cases hx<;>cases hy<;>simp at hcon;done)|(split at hr<;>first|(cases hr;done)|(cases hx<;>cases hy<;>simp at hcon;done))
  ·cases hr
 unfold aF
 split
 ·split
  ·rename_i r hr
   obtain⟨h1,h2,_⟩:=main r hr
   exact⟨_,w,ρ,by rw[h1,h2];rfl, .bool r,Mv.refl hR⟩
  ·exact hpure
 ·split
  ·rename_i r hr
   obtain⟨h1,_,h2⟩:=main r hr
   exact⟨_,w,ρ,by rw[h1,h2];rfl, .bool _,Mv.refl hR⟩
  ·exact hpure
 ·exact hpure
theorem ip (hOK:EOK E) (hR:Rel E G ρ st w.heap) (hE:ER ρ T a.tmps) (ho:ao E.P.globals.size o=true) {op:BinOp} {t yt:S} {x y:W} (hop:o.op= .binOp op t x y yt)
  (hgx:ac E.P.globals.size x=true) (hgy:ac E.P.globals.size y=true):bl E G ρ st w ((execOp a.eval o).run E.P w) (bP E o T st op t x y yt):=by
 have hpure:=aS hR hE ho
 have h1:=VR.evalO hE (λi hi=>hR.glob i hi) hgx
 have h2:=VR.evalO hE (λi hi=>hR.glob i hi) hgy
 have hv:=λ(u v:AV) (hx:VR ρ u (a.eval x)) (hy:VR ρ v (a.eval y))=>kh hOK hR hE ho hop hx hy
 unfold bP
 generalize V T x=u at h1⊢
 generalize V T y=v at h2⊢
 cases u<;>try exact hv _ _ h1 h2
 ·trivial
 ·rename_i m
  show bl E G ρ st w _ (dI E o op m v T st)
  cases v<;>try trivial
  ·rename_i n
   cases hm:a.eval x<;>rw[hm]at h1<;>cases h1
   cases hn:a.eval y<;>rw[hn]at h2<;>cases h2
   exact iQ hR hE ho hop hm hn
theorem kw (hR:Rel E G ρ st w.heap) (hE:ER ρ T a.tmps) (ho:ao E.P.globals.size o=true) {op:UnOp} {t:S} {x:W} (hop:o.op= .unOp op t x)
  (hgx:ac E.P.globals.size x=true):bl E G ρ st w ((execOp a.eval o).run E.P w) (jz E o T st op x):=by
 have hpure:=aS hR hE ho
 have h1:=VR.evalO hE (λi hi=>hR.glob i hi) hgx
 unfold jz
 split
 ·split
  ·rename_i n hn
   rw[hn]at h1
   cases hm:a.eval x<;>rw[hm]at h1<;>cases h1
   refine⟨_,w,ρ,?_, .num _,Mv.refl hR⟩
   rw[bj]
   simp only[execOp,hop,hm,Op.unary,Op.intArith,J,O,I]
   rfl
  ·exact hpure
 ·split
  ·rename_i n hn
   rw[hn]at h1
   cases hm:a.eval x<;>rw[hm]at h1<;>cases h1
   refine⟨_,w,ρ,?_, .bool _,Mv.refl hR⟩
   simp[execOp,hop,hm,Op.unary]
  ·exact hpure
 ·exact hpure
end
end
section
section
variable {E:Env} {G:aD} {ρ:aj} {st:St} {w:aa} {T:Tr AV} {a:Act} {o:Z}
theorem fV (off:Nat):∀(vs:List N) (k:Nat) (cs:Array N),off+k+vs.length<=cs.size->
  ((vs.zipIdx k).foldl (λ(cs:Array N) (p:N×Nat)=>cs.setIfInBounds (off+p.2) p.1) cs).toList=cs.toList.take (off+k)++vs++cs.toList.drop (off+k+vs.length)
 |[],k,cs,_=>by simp
 |v :: vs,k,cs,h=>by
  simp at h
  simp only[List.zipIdx_cons,List.foldl_cons]
  rw[fV off vs (k+1) (cs.setIfInBounds (off+k) v) (by simp;omega)]
  have hlt:off+k<cs.toList.length:=by simp;omega
  obtain⟨l⟩:=cs
  simp only[Array.toList_setIfInBounds]at hlt⊢
  apply List.ext_getElem?
  intro j
  simp only[List.getElem?_append,List.length_take,List.length_append,List.length_cons,List.getElem?_take,List.getElem?_drop,List.length_set,List.getElem?_set]
  have e1:min (off+(k+1)) l.length=off+k+1:=by omega
  have e2:min (off+k) l.length=off+k:=by omega
  rw[e1,e2]
  by_cases hj:j<off+k
  ·have h1:j<off+k+1:=by omega
   have h2:j<off+k+1+vs.length:=by omega
   have h3:j<off+k+(vs.length+1):=by omega
   have h4:j<off+(k+1):=by omega
   have h5:off+k≠j:=by omega
   simp[hj,h1,h2,h3,h4,h5]
  ·by_cases hj2:j=off+k
   ·subst hj2
    have h2:off+k<off+k+1+vs.length:=by omega
    have h4:off+k<off+(k+1):=by omega
    simp[h2,h4,hlt]
   ·obtain⟨m,rfl⟩:∃m,j=off+k+1+m:=⟨j - (off+k+1),by omega⟩
    have h1:¬off+k+1+m<off+k+1:=by omega
    have e3:off+k+1+m - (off+k)=m+1:=by omega
    have e4:off+k+1+m - (off+k+1)=m:=by omega
    by_cases hm:m<vs.length
    ·have h6:off+k+1+m<off+k+1+vs.length:=by omega
     have h7:off+k+1+m<off+k+(vs.length+1):=by omega
     simp[h1,hj,e3,e4,hm,h6,h7]
    ·have h7:¬(off+k+1+m<off+k+1+vs.length):=by omega
     have h8:¬(off+k+1+m<off+k+(vs.length+1)):=by omega
     have e5:off+(k+1)+vs.length+(off+k+1+m - (off+k+1+vs.length))=off+k+1+m:=by omega
     have e6:off+k+(vs.length+1)+(off+k+1+m - (off+k+(vs.length+1)))=off+k+1+m:=by omega
     have h9:off+k≠off+k+1+m:=by omega
     simp[h7,h8,e5,e6,h9]
def PR (ρ:aj):List (Nat×AV)->List (Nat×N)->Prop
 |[],[]=>True
 |p :: ps,q :: qs=>(p.1=q.1/\VR ρ p.2 q.2)/\PR ρ ps qs
 |_,_=>False
theorem dM {place:Nat->Option (Nat×Nat)} {place':Nat->Option (Nat×Nat)} (hp:∀i os,place i=F os->place' i=F os):∀{ps:List (Nat×AV)} {qs:List (Nat×N)} {cs cs':List AV} {vs:Array N},
  PR ρ ps qs->VRs ρ cs vs.toList->dl place cs ps=F cs'->∃vs',Instr.fill place' vs qs=F vs'/\VRs ρ cs' vs'.toList
 |[],[],cs,cs',vs,_,hv,h=>by simp only[dl]at h;cases h;exact⟨vs,rfl,hv⟩
 |[],_ :: _,_,_,_,h,_,_=>h.elim
 |_ :: _,[],_,_,_,h,_,_=>h.elim
 |p :: ps,(i,x) :: qs,cs,cs',vs,hpr,hv,h=>by
  obtain⟨⟨h1,h2⟩,h3⟩:=hpr
  simp only[dl]at h
  split at h
  ·cases h
  ·rename_i os hos
   split at h
   ·rename_i us hus
    split at h
    ·rename_i hb
     have hlen:=U hb
     split at h
     ·cases h
     ·rename_i u us'
      split at h
      ·rename_i cs1 hput
       have hx:=h2.cells hus
       obtain⟨off,sz⟩:=os
       rcases hv.put hx hput with⟨h4,h5⟩|⟨h4,_⟩
       ·have hl:x.cells.size=sz:=by
         have:=hx.length
         simp at this hlen⊢
         omega
        have hpl:=hp _ _ hos
        rw[show p.1=i from h1]at hpl
        have hlt:off+x.cells.size<=vs.size:=by simpa using h5
        have hfold:(x.cells.zipIdx.foldl (λ(cs:Array N) (p:N×Nat)=>cs.setIfInBounds (off+p.2) p.1) vs).toList=
          vs.toList.take off++x.cells.toList++vs.toList.drop (off+x.cells.toList.length):=by
         rw[<-Array.foldl_toList,Array.toList_zipIdx]
         have:=fV off x.cells.toList 0 vs (by simpa using hlt)
         simpa using this
        obtain⟨vs',h6,h7⟩:=dM hp (vs:=x.cells.zipIdx.foldl (λ(cs:Array N) (p:N×Nat)=>cs.setIfInBounds (off+p.2) p.1) vs) h3 (by rw[hfold];exact h4) h
        refine⟨vs',?_,h7⟩
        simp only[Instr.fill,hpl]
        rw[if_neg (by simp[hl];omega)]
        exact h6
       ·cases h4
      ·cases h
    ·cases h
   ·cases h
theorem PR.eval (hR:Rel E G ρ st w.heap) (hE:ER ρ T a.tmps):∀{ps:List (Nat×W)},(∀p∈ps,ac E.P.globals.size p.2=true)->PR ρ (ps.map λ(i,x)=>(i,V T x)) (ps.map λ(i,x)=>(i,a.eval x))
 |[],_=>trivial
 |(i,x) :: ps,h=>⟨⟨rfl,VR.evalO hE (λi hi=>hR.glob i hi) (h _ (List.mem_cons_self ..))⟩,PR.eval hR hE λp hp=>h p (List.mem_cons_of_mem _ hp)⟩
theorem cY {P:Program} {α β:Type} (f:α->Sem β) (g:α->β) (w:aa):∀(l:List α),(∀x∈l,(f x).run P w= .ok (g x) w)->(l.mapM f).run P w= .ok (l.map g) w
 |[],_=>by simp
 |x :: l,h=>by
  simp[List.mapM_cons,h x (List.mem_cons_self ..),cY f g w l (λy hy=>h y (List.mem_cons_of_mem _ hy))]
theorem eQ {P:Program} {α β:Type} (f:α->Sem β) (g:α->β) (w:aa) (l:Array α) (h:∀x∈l,(f x).run P w= .ok (g x) w):(l.mapM f).run P w= .ok (l.map g) w:=by
 rw[Array.mapM_eq_mapM_toList]
 simp[cY f g w l.toList (λx hx=>h x (by simpa using hx))]
 apply Array.ext'
 simp
theorem im (hOK:EOK E) (hR:Rel E G ρ st w.heap) (hE:ER ρ T a.tmps) {t:S} {parts:Array (Nat×W)} (hg:∀p∈parts,ac E.P.globals.size p.2=true):
  bl E G ρ st w ((do let y<-Instr.build t (parts.map λ(i,x)=>(i,a.eval x));pure (.value y):Sem Next).run E.P w) (cO E o T st t parts):=by
 unfold cO
 split
 ·rename_i v hv
  unfold j0 at hv
  split at hv
  ·rename_i ti hti
   obtain⟨d,hd,hu⟩:=(hOK.ty _ _ hti).run_underlying
   obtain⟨z,hz,hzv,hzs,_⟩:=(hOK.ty _ _ hti).zero_run w
   have hpr:=PR.eval hR hE (ps:=parts.toList) (λp hp=>hg p (by simpa using hp))
   split at hv
   ·rename_i fs hk
    rw[hk]at hd
    obtain⟨fields,rfl,rfl,hkn⟩:=hd
    cases hf:dl (cb (fields.toList.map λf=>(f.offset,E.P.cellsOf f.type,av E.P f.type))) ti.zero (parts.toList.map λ(i,x)=>(i,V T x))with
    |none=>simp[hf]at hv
    |some cs=>
     simp[hf]at hv
     subst hv
     obtain⟨vs,h1,h2⟩:=dM (place':=λi=>(fields.map λf=>(f.offset,E.P.cellsOf f.type))[i]?) (vs:=z.cells) (by
      intro i os hos
      obtain⟨fo,sz⟩:=os
      obtain⟨f,h1,h2,h3⟩:=cE hos
      have h1':fields[i]?=F f:=by simpa using h1
      simp[h1',h2,h3]) hpr (hzv ρ) hf
     refine .of_still hR ⟨.agg vs,?_, .agg h2⟩
     have hm:=eQ (P:=E.P) (λf:Field=>do pure (f.offset,<-Go.sizeOf f.type)) (λf=>(f.offset,E.P.cellsOf f.type)) w fields (λf hf=>by simp[ab (hkn f hf)])
     simp only[Instr.build,J,hz,I,hu,hm,Array.toList_map]
     simp only[h1,O]
   ·rename_i n es ea hk
    rw[hk]at hd
    obtain⟨e,rfl,rfl,_,hkn⟩:=hd
    cases hf:dl (λi=>F (i*E.P.cellsOf e,E.P.cellsOf e)) ti.zero (parts.toList.map λ(i,x)=>(i,V T x))with
    |none=>simp[hf]at hv
    |some cs=>
     simp[hf]at hv
     subst hv
     obtain⟨vs,h1,h2⟩:=dM (place':=λi=>F (i*E.P.cellsOf e,E.P.cellsOf e)) (vs:=z.cells) (λi os h=>h) hpr (hzv ρ) hf
     refine .of_still hR ⟨.agg vs,?_, .agg h2⟩
     simp only[Instr.build,J,hz,I,hu,ab hkn,Array.toList_map]
     simp only[h1,O]
   ·cases hv
  ·cases hv
 ·trivial
theorem ba {zs:List AV} {z:List N} (h:VRs ρ zs z):∀n,VRs ρ (bv zs n) ((List.range (n*z.length)).map λi=>z[i % z.length]!)
 |0=>by simp[bv];exact .nil
 |n+1=>by
  rw[bv,show(n+1)*z.length=z.length+n*z.length by rw[Nat.add_mul];omega,List.range_add,List.map_append]
  refine VRs.append ?_ ?_
  ·have:(List.range z.length).map (λi=>z[i % z.length]!)=z:=by
    apply List.ext_getElem?
    intro i
    by_cases hi:i<z.length
    ·simp[hi,Nat.mod_eq_of_lt hi]
    ·simp[hi,List.getElem?_eq_none (Nat.le_of_not_lt hi)]
   rw[this];exact h
  ·have:(List.map (λx=>z.length+x) (List.range (n*z.length))).map (λi=>z[i % z.length]!)=(List.range (n*z.length)).map λi=>z[i % z.length]!:=by
    rw[List.map_map]
    apply List.map_congr_left
    intro i _
    simp
   rw[this];exact ba h n
theorem dm (z:Array N) (n:Nat):((Array.range n).map λi=>z[i % z.size]!).toList=(List.range n).map λi=>z.toList[i % z.toList.length]!:=by
 simp[getElem!_def]
theorem a9 {n:Int} (h0:0<=n) (h:n<9223372036854775808):IntKind.i64.wrap n=n:=by
 show(if(true&&decide (n % 18446744073709551616>=9223372036854775808))=true then n % 18446744073709551616 - 18446744073709551616 else n % 18446744073709551616)=n
 have e:n % 18446744073709551616=n:=Int.emod_eq_of_lt h0 (by omega)
 rw[e]
 have:¬n>=9223372036854775808:=by omega
 simp[this]
theorem ep (hOK:EOK E) (hR:Rel E G ρ st w.heap) (hE:ER ρ T a.tmps) {t:S} {len:Nat} {parts:Array (Nat×W)} (hg:∀p∈parts,ac E.P.globals.size p.2=true):
  bl E G ρ st w ((do let y<-Instr.buildSlice t len (parts.map λ(i,x)=>(i,a.eval x));pure (.value y):Sem Next).run E.P w) (aC E o T st t len parts):=by
 unfold aC
 split
 ·rename_i cs e hv
  unfold aV at hv
  split at hv
  ·rename_i ti hti
   obtain⟨d,hd,hu⟩:=(hOK.ty _ _ hti).run_underlying
   have hpr:=PR.eval hR hE (ps:=parts.toList) (λp hp=>hg p (by simpa using hp))
   split at hv
   ·rename_i el es by_ hk
    rw[hk]at hd
    obtain⟨rfl,rfl,_,hkn⟩:=hd
    split at hv
    ·cases hv
    ·rename_i hle
     split at hv
     ·rename_i te hte
      split at hv
      ·rename_i cs' hf
       obtain⟨rfl,rfl⟩:cs'=cs/\el=e:=by simpa using hv
       have hel:=hOK.ty _ _ hte
       obtain⟨z,hz,hzv,hzs,_⟩:=hel.zero_run w
       have hsz:E.P.cellsOf el=z.cells.size:=by rw[hel.size,hzs]
       have hrep:=ba (hzv ρ) len
       obtain⟨vs,h1,h2⟩:=dM (place':=λi=>F (i*E.P.cellsOf el,E.P.cellsOf el)) (vs:=(Array.range (len*E.P.cellsOf el)).map λi=>z.cells[i % z.cells.size]!)
        (λi os h=>h) hpr (by rw[dm,hsz];simpa using hrep) hf
       obtain⟨w',h4,h5⟩:=cL hR el h2 false
       refine .of_value ⟨.slice (F ⟨w.heap.size,0,H⟩) len len,w',_,?_, .sl (ae ρ st.n w.heap.size 0),h5⟩
       have h1':Instr.fill (λi=>F (i*E.P.cellsOf el,E.P.cellsOf el)) ((Array.range (len*E.P.cellsOf el)).map λi=>z.cells[i % z.cells.size]!) (parts.map λ(i,x)=>(i,a.eval x)).toList=F vs:=by
        rw[Array.toList_map];exact h1
       simp only[Instr.buildSlice,J,hu,I,ab hkn,Sem.run_ite,hle,if_false,O]
       by_cases h0:len*E.P.cellsOf el=0
       ·simp only[h0,if_true,I]
        rw[h0]at h1'
        have e0:∀(f:Nat->N),(Array.range 0).map f=#[]:=λf=>by simp
        rw[e0]at h1'⊢
        simp only[h1',J]
        rw[show vs=⟨vs.toList⟩from rfl,h4]
        rfl
       ·simp only[h0,if_false,J,hz,I,O,h1']
        rw[show vs=⟨vs.toList⟩from rfl,h4]
        rfl
      ·cases hv
     ·cases hv
   ·cases hv
  ·cases hv
 ·trivial
theorem eZ (hOK:EOK E) (hR:Rel E G ρ st w.heap) (hE:ER ρ T a.tmps) {t:S} {x y:W} (hx:ac E.P.globals.size x=true) (hy:ac E.P.globals.size y=true):
  bl E G ρ st w ((do let y<-Instr.makeSlice t (a.eval x) (a.eval y);pure (.value y):Sem Next).run E.P w) (aI E o T st t x y):=by
 have h1:=VR.evalO hE (λi hi=>hR.glob i hi) hx
 have h2:=VR.evalO hE (λi hi=>hR.glob i hi) hy
 unfold aI
 split
 ·rename_i v s' hv
  unfold bI at hv
  split at hv
  ·rename_i ti l c hti hl hc
   obtain⟨k1,e1⟩:=aR h1 hl
   obtain⟨k2,e2⟩:=aR h2 hc
   rw[e1,e2]
   obtain⟨d,hd,hu⟩:=(hOK.ty _ _ hti).run_underlying
   split at hv
   ·rename_i el es bytes hk
    rw[hk]at hd
    obtain⟨rfl,rfl,rfl,hkn⟩:=hd
    split at hv
    ·rename_i hb
     obtain⟨hl0,hlc,hcb,hc40⟩:=hb
     split at hv
     ·rename_i te hte
      cases hv
      have hel:=hOK.ty _ _ hte
      obtain⟨z,hz,hzv,hzs,_⟩:=hel.zero_run w
      have hsz:E.P.cellsOf el=z.cells.size:=by rw[hel.size,hzs]
      have hrep:=ba (hzv ρ) c.toNat
      obtain⟨w',h4,h5⟩:=cL hR el hrep false
      refine .of_value ⟨.slice (F ⟨w.heap.size,0,H⟩) l.toNat c.toNat,w',_,?_, .sl (ae ρ st.n w.heap.size 0),h5⟩
      obtain⟨d',info,z',i1,i2,i3,i4,_⟩:=hel.ex
      have hty:(typeInfo el).run E.P w= .ok info w:=by simp[typeInfo,i2]
      have hbytes:E.P.bytesOf el=info.bytes:=by simp[Program.bytesOf,i2]
      have hwl:IntKind.i64.wrap l=l:=a9 hl0 (by omega)
      have hwc:IntKind.i64.wrap c=c:=a9 (by omega) (by omega)
      have hbc:¬((info.bytes:Int)*c>2 ^ 48):=by
       rw[hbytes]at hcb
       rw[Int.mul_comm]
       have:(2:Int) ^ 40<=2 ^ 48:=by decide
       omega
      have hcond:((decide (c<0)||decide ((info.bytes:Int)*c>2 ^ 48))||decide (l<0)||decide (l>c))=false:=by
       simp only[hbc,decide_false,Bool.or_false]
       have q1:¬c<0:=by omega
       have q2:¬l<0:=by omega
       have q3:¬l>c:=by omega
       simp[q1,q2,q3]
      have hrow:∀zs:Array N,zs=z.cells\/(c.toNat*E.P.cellsOf el=0)->(newRow el ((Array.range (c.toNat*E.P.cellsOf el)).map λi=>zs[i % zs.size]!)).run E.P w= .ok ⟨w.heap.size,0,H⟩ w':=by
       intro zs hzs'
       have he:(Array.range (c.toNat*E.P.cellsOf el)).map (λi=>zs[i % zs.size]!)=⟨(List.range (c.toNat*z.cells.toList.length)).map λi=>z.cells.toList[i % z.cells.toList.length]!⟩:=by
        apply Array.ext'
        rcases hzs' with rfl|h0
        ·rw[dm,hsz];simp
        ·have h0':c.toNat*z.cells.toList.length=0:=by rw[hsz]at h0;simpa using h0
         rw[h0,h0'];simp
       rw[he];exact h4
      simp only[Instr.makeSlice,J,hu,I,asInt,asIntOf,O,hty,hwl,hwc,hcond,Bool.false_eq_true,if_false,run_askRoom,ab hkn]
      by_cases h0:c.toNat*E.P.cellsOf el=0
      ·simp only[h0,if_true,O,I]
       have:=hrow #[] (.inr h0)
       rw[h0]at this
       simp only[J,O,I,this]
      ·simp only[h0,if_false,J,hz,I,O,hrow _ (.inl rfl)]
     ·cases hv
    ·cases hv
   ·cases hv
  ·cases hv
 ·trivial
end
end
end Ev
