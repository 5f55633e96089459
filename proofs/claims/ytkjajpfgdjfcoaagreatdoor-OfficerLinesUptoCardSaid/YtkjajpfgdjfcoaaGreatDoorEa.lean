/- The evaluator: an abstract machine for closed runs, its values, its heap. -/
import GoSem.Step
import Derived.Laws.Rows
import Derived.Laws.World
import Derived.Laws.Sem
import Derived.Laws.Cells
set_option linter.unusedVariables false
set_option linter.unusedSimpArgs false
section
namespace Ev
open Go

/-! an abstract machine for closed runs: values with abstract block numbers -/

inductive AV where
  | top
  | num (n : Int)
  | bool (x : Bool)
  | val (v : Value)
  | ptr (i o : Nat)
  | sl (i o len cap : Nat) (x : Bool)
  | nes
  | mp (i : Nat)
  | fn (f : FuncId) (first cap : List AV)
  | yld (l : Nat)
  | ifc (t : TypeId) (v : AV)
  | agg (cs : List AV)
  | tup (cs : List AV)

inductive Tr (α : Type) where
  | nil
  | node (v : Option α) (l r : Tr α)

noncomputable def Tr.get {α : Type} (t : Tr α) : Nat → Option α :=
  @Tr.rec α (fun _ => Nat → Option α) (fun _ => none)
    (fun v _ _ gl gr n => @Nat.rec (fun _ => Option α) v (fun m _ => @Bool.rec (fun _ => Option α) (gr (Nat.div m 2)) (gl (Nat.div m 2)) (Nat.beq (Nat.mod m 2) 0)) n) t

noncomputable def Tr.one {α : Type} (k : Nat) : Nat → Option α → Tr α :=
  @Nat.rec (fun _ => Nat → Option α → Tr α) (fun _ _ => .nil)
    (fun _ ih n x => @Nat.rec (fun _ => Tr α) (.node x .nil .nil)
      (fun m _ => @Bool.rec (fun _ => Tr α) (.node none .nil (ih (Nat.div m 2) x)) (.node none (ih (Nat.div m 2) x) .nil) (Nat.beq (Nat.mod m 2) 0)) n) k

noncomputable def Tr.put {α : Type} (k : Nat) (t : Tr α) : Nat → Option α → Tr α :=
  @Tr.rec α (fun _ => Nat → Option α → Tr α) (Tr.one k)
    (fun v l r pl pr n x => @Nat.rec (fun _ => Tr α) (.node x l r)
      (fun m _ => @Bool.rec (fun _ => Tr α) (.node v l (pr (Nat.div m 2) x)) (.node v (pl (Nat.div m 2) x) r) (Nat.beq (Nat.mod m 2) 0)) n) t

def bits : Nat := 40

structure ADef where
  fv : AV
  args : List AV
  coll : Option Nat

inductive AObj where
  | cells (cs : List AV) (elem : TypeId) (ext : Bool)
  | map (es : List (Value × AV × Nat)) (clock : Nat)
  | siter (s : ByteArray) (pos : Nat)
  | miter (m : Option Nat) (since : Nat) (seen : List Nat) (stepped : Nat)
  | loop (state : LoopState) (pending : Option Code) (fn : FuncId) (T : Tr AV) (params : List Tmp) (assign body : Code) (defers : Nat)
  | deferred (ds : List ADef)
  | ro (k : Nat) (cs : List AV)

structure APan where
  v : AV
  recovered : Bool

inductive AMode where
  | returning
  | panicking (c : List APan)

structure St where
  h : Tr AObj
  n : Nat
  u : Option AMode

noncomputable def St.upd (s : St) (i : Nat) (o : Option AObj) : St := { s with h := s.h.put bits i o }
noncomputable def St.new (s : St) (o : AObj) : St := { s with h := s.h.put bits s.n (some o), n := s.n + 1 }

/-- field: offset, size, aggregate; -/
inductive TK where
  | sc (k : IntKind)
  | ptr (esize : Nat)
  | func
  | struct (fs : List (Nat × Nat × Bool))
  | array (n esize : Nat) (eagg : Bool)
  | slice (elem esize bytes : Nat)
  | iface
  | mapT (k e : TypeId)
  | str
  | other

structure TI where
  k : TK
  size : Nat
  zero : List AV

inductive R (α : Type) where
  | ok (a : α)
  | no (why : Nat)

noncomputable def lget (l : List AV) : Nat → Option AV :=
  @List.rec AV (fun _ => Nat → Option AV) (fun _ => none) (fun x _ ih n => @Nat.rec (fun _ => Option AV) (some x) (fun m _ => ih m) n) l

noncomputable def ltake {α : Type} : Nat → List α → List α
  | 0, _ => []
  | _ + 1, [] => []
  | n + 1, x :: xs => x :: ltake n xs

noncomputable def ldrop {α : Type} : Nat → List α → List α
  | 0, xs => xs
  | _ + 1, [] => []
  | n + 1, _ :: xs => ldrop n xs

/-- the cells from o on are replaced by vs; none: too long -/
noncomputable def lput : List AV → Nat → List AV → Option (List AV)
  | cs, 0, vs => match vs with
    | [] => some cs
    | v :: vs => match cs with
      | [] => none
      | _ :: cs => match lput cs 0 vs with
        | some r => some (v :: r)
        | none => none
  | [], _ + 1, vs => match vs with
    | [] => some []
    | _ => none
  | c :: cs, n + 1, vs => match lput cs n vs with
    | some r => some (c :: r)
    | none => none

noncomputable def undefA : AV := .tup []

/-- one cell's value -/
noncomputable def AV.cell : AV → Bool
  | .agg _ | .tup _ | .top => false
  | .val v => match v with | .agg _ | .tuple _ => false | _ => true
  | _ => true

noncomputable def cellV (v : Value) : Bool :=
  match v with
  | .agg _ => false
  | .tuple _ => false
  | _ => true

/-- the cells of a value that is stored; none: it is not known how many -/
noncomputable def AV.cells (v : AV) : Option (List AV) :=
  match v with
  | .agg cs => some cs
  | .top => none
  | .tup _ => none
  | .val w => match cellV w with
    | true => some [.val w]
    | false => none
  | .num n => some [.num n] | .bool b => some [.bool b] | .ptr i o => some [.ptr i o] | .sl i o l c x => some [.sl i o l c x] | .nes => some [.nes] | .mp i => some [.mp i]
  | .fn f a c => some [.fn f a c] | .yld l => some [.yld l] | .ifc t v => some [.ifc t v]

noncomputable def mkInt (k : IntKind) (n : Int) : AV :=
  match k with
  | .i64 => .num n
  | .i8 => .val (.int .i8 n) | .i16 => .val (.int .i16 n) | .i32 => .val (.int .i32 n)
  | .u8 => .val (.int .u8 n) | .u16 => .val (.int .u16 n) | .u32 => .val (.int .u32 n) | .u64 => .val (.int .u64 n)

noncomputable def mkVal (v : Value) : AV :=
  match v with
  | .int k n => mkInt k n
  | .bool b => .bool b
  | .float k b => .val (.float k b) | .complex k a b => .val (.complex k a b) | .string s => .val (.string s) | .pointer a => .val (.pointer a)
  | .slice a l c => .val (.slice a l c) | .map r => .val (.map r) | .chan r => .val (.chan r) | .func f a c => .val (.func f a c) | .nilFunc => .val .nilFunc
  | .iface t v => .val (.iface t v) | .nilIface => .val .nilIface | .agg c => .val (.agg c) | .tuple c => .val (.tuple c)

noncomputable def ofConst (v : Value) : AV :=
  match v with
  | .int k n => mkInt k n
  | .bool b => .bool b
  | .agg cs => .agg (cs.toList.map mkVal)
  | .float k b => .val (.float k b) | .complex k a b => .val (.complex k a b) | .string s => .val (.string s) | .pointer a => .val (.pointer a)
  | .slice a l c => .val (.slice a l c) | .map r => .val (.map r) | .chan r => .val (.chan r) | .func f a c => .val (.func f a c) | .nilFunc => .val .nilFunc
  | .iface t v => .val (.iface t v) | .nilIface => .val .nilIface | .tuple c => .val (.tuple c)

mutual
noncomputable def AV.toVal : AV → Option Value
  | .val v => some v
  | .num n => some (.int .i64 n)
  | .bool b => some (.bool b)
  | .ifc t v => match v.toVal with | some x => some (.iface t x) | none => none
  | .agg cs => match AV.toVals cs with | some xs => some (.agg ⟨xs⟩) | none => none
  | .tup cs => match AV.toVals cs with | some xs => some (.tuple ⟨xs⟩) | none => none
  | _ => none
noncomputable def AV.toVals : List AV → Option (List Value)
  | [] => some []
  | c :: cs => match c.toVal, AV.toVals cs with
    | some x, some xs => some (x :: xs)
    | _, _ => none
end

noncomputable def ofVal : Value → AV
  | .tuple cs => .tup (cs.toList.map ofConst)
  | v => ofConst v

noncomputable def pureRun (P : Program) {α : Type} : Sem α → Option α
  | .pure a => some a
  | .program k => pureRun P (k P)
  | .mark _ k => pureRun P k
  | _ => none

noncomputable def getTop (o : Option AV) : AV := @Option.rec AV (fun _ => AV) .top (fun v => v) o

noncomputable def evalO (T : Tr AV) (x : Operand) : AV :=
  @Operand.rec (fun _ => Tr AV → AV) (fun t T => getTop (Tr.get T t)) (fun v _ => ofConst v) (fun g _ => .ptr g 0) (fun f _ => .val (.func (.func f) #[] #[])) x T

noncomputable def putT (T : Tr AV) (d : Option Tmp) (v : AV) : Tr AV :=
  @Option.rec Tmp (fun _ => Tr AV → AV → Tr AV) (fun T _ => T) (fun t T v => Tr.put bits T t (some v)) d T v

inductive Res where
  | val (v : AV) (s : St)
  | skip (s : St)
  | enter (f : FuncId) (args : List AV) (s : St)
  | round (l : Nat) (args : List AV)
  | defer (d : ADef)
  | recover
  | panic (v : AV) (s : St)
  | no (why : Nat)

structure Env where mk ::
  P : Program
  ty : Nat → Option TI
  fn : Nat → Option Func
  plug : Nat → Option (List AV → St → Option (AV × St))
  gh : Nat → Obj

noncomputable def loadCells (s : St) (i o n : Nat) : Option (List AV) :=
  match s.h.get i with
  | some (.cells cs _ _) =>
    let r := ltake n (ldrop o cs)
    if r.length = n then some r else none
  | _ => none

noncomputable def loadAgg (r : Option (List AV)) : Option AV :=
  match r with
  | some cs => some (.agg cs)
  | none => none

noncomputable def cellOf (o : Nat) (r : Option AObj) : Option AV :=
  match r with
  | some ob => match ob with
    | .cells cs _ _ => lget cs o
    | .ro _ cs => lget cs o
    | .map .. => none | .siter .. => none | .miter .. => none | .loop .. => none | .deferred _ => none
  | none => none

noncomputable def loadK (s : St) (i o size : Nat) (k : TK) : Option AV :=
  match k with
  | .struct _ => loadAgg (loadCells s i o size)
  | .array .. => loadAgg (loadCells s i o size)
  | .sc _ => cellOf o (s.h.get i)
  | .ptr _ => cellOf o (s.h.get i)
  | .func => cellOf o (s.h.get i)
  | .slice .. => cellOf o (s.h.get i)
  | .iface => cellOf o (s.h.get i)
  | .mapT .. => cellOf o (s.h.get i)
  | .str => cellOf o (s.h.get i)
  | .other => cellOf o (s.h.get i)

noncomputable def aLoadAt (E : Env) (t : TypeId) (i o : Nat) (s : St) : Option AV :=
  match E.ty t with
  | none => none
  | some ti => loadK s i o ti.size ti.k

noncomputable def aLoad (E : Env) (t : TypeId) (a : AV) (s : St) : Option AV :=
  match a with
  | .ptr i o => aLoadAt E t i o s
  | _ => none

noncomputable def storeCells (s : St) (i o : Nat) (vs : List AV) : Option St :=
  match vs with
  | [] => some s
  | v :: vs => match List.all (v :: vs) AV.cell with
    | true => match s.h.get i with
      | some (.cells cs e x) => match lput cs o (v :: vs) with
        | some cs => some (s.upd i (some (.cells cs e x)))
        | none => none
      | _ => none
    | false => none

noncomputable def aStore (E : Env) (t : TypeId) (a v : AV) (s : St) : Option St :=
  match a with
  | .ptr i o => match E.ty t with
    | some ti => match v.cells with
      | some cs => match Nat.beq cs.length ti.size with
        | true => storeCells s i o cs
        | false => none
      | none => none
    | none => none
  | _ => none

noncomputable def aFill (place : Nat → Option (Nat × Nat)) (cells : List AV) : List (Nat × AV) → Option (List AV)
  | [] => some cells
  | p :: rest =>
    match place p.1 with
    | none => none
    | some os =>
      match p.2.cells with
      | some vs => match Nat.beq vs.length os.2 with
        | true => match vs with
          | [] => none
          | v :: vs => match lput cells os.1 (v :: vs) with
            | some cells => aFill place cells rest
            | none => none
        | false => none
      | none => none

noncomputable def fieldOf (fs : List (Nat × Nat × Bool)) (i : Nat) : Option (Nat × Nat) :=
  match fs, i with
  | [], _ => none
  | (o, s, _) :: fs, i => match i with
    | 0 => some (o, s)
    | i + 1 => fieldOf fs i

noncomputable def fieldOf3 (fs : List (Nat × Nat × Bool)) (i : Nat) : Option (Nat × Nat × Bool) :=
  match fs, i with
  | [], _ => none
  | f :: fs, i => match i with
    | 0 => some f
    | i + 1 => fieldOf3 fs i

noncomputable def aBuild (E : Env) (t : TypeId) (parts : List (Nat × AV)) : Option AV :=
  match E.ty t with
  | some ti => match ti.k with
    | .struct fs => (aFill (fieldOf fs) ti.zero parts).map .agg
    | .array _ es _ => (aFill (fun i => some (i * es, es)) ti.zero parts).map .agg
    | _ => none
  | none => none

noncomputable def repZero (zero : List AV) : Nat → List AV
  | 0 => []
  | n + 1 => zero ++ repZero zero n

noncomputable def aBuildSlice (E : Env) (t : TypeId) (len : Nat) (parts : List (Nat × AV)) : Option (List AV × TypeId) :=
  match E.ty t with
  | some ti => match ti.k with
    | .slice elem es _ =>
      if len * es > 2 ^ 24 then none else
      match E.ty elem with
      | some te => match aFill (fun i => some (i * es, es)) (repZero te.zero len) parts with
        | some cs => some (cs, elem)
        | none => none
      | none => none
    | _ => none
  | none => none

noncomputable def aIntOf : AV → Option Int
  | .num n => some n
  | .val (.int _ n) => some n
  | _ => none

noncomputable def aIndexAddr (E : Env) (t : TypeId) (x ix : AV) : Option AV :=
  match aIntOf ix, E.ty t with
  | some i, some ti => match ti.k, x with
    | .array n es _, .ptr b o => if 0 ≤ i ∧ i < n then some (.ptr b (o + i.toNat * es)) else none
    | .slice _ es _, .sl b o len _ _ => if 0 ≤ i ∧ i < len then some (.ptr b (o + i.toNat * es)) else none
    | _, _ => none
  | _, _ => none

noncomputable def optInt (o : Option AV) (d : Nat) : Option Nat :=
  match o with
  | none => some d
  | some v => match aIntOf v with
    | some i => if 0 ≤ i then some i.toNat else none
    | none => none

noncomputable def isExt (s : St) (i : Nat) : Option Bool :=
  match s.h.get i with
  | some (.cells _ _ x) => some x
  | _ => none

noncomputable def aSlice (E : Env) (t : TypeId) (x : AV) (lo hi mx : Option AV) : Option AV :=
  match E.ty t with
  | some ti => match ti.k, x with
    | .array n es _, .ptr b o =>
      match optInt mx n with
      | some m => match optInt hi n with
        | some h => match optInt lo 0 with
          | some l => if l ≤ h ∧ h ≤ m ∧ m ≤ n ∧ (mx.isSome → hi.isSome) then some (.sl b (if m = l then o else o + l * es) (h - l) (m - l) false) else none
          | none => none
        | none => none
      | none => none
    | .slice _ es _, .sl b o len cap x =>
      match optInt mx cap with
      | some m => match optInt hi len with
        | some h => match optInt lo 0 with
          | some l => if l ≤ h ∧ h ≤ m ∧ m ≤ cap ∧ (mx.isSome → hi.isSome) then
              match x && mx.isNone with
              | true => if l = cap ∧ l ≠ 0 then some .nes else some (.sl b (o + l * es) (h - l) (m - l) true)
              | false => some (.sl b (if m = l then o else o + l * es) (h - l) (m - l) false)
            else none
          | none => none
        | none => none
      | none => none
    | .slice _ _ _, .nes =>
      match optInt mx 0, optInt hi 0, optInt lo 0 with
      | some 0, some 0, some 0 => if mx.isSome then none else some .nes
      | _, _, _ => none
    | .slice _ _ _, .val (.slice none 0 0) =>
      match optInt mx 0, optInt hi 0, optInt lo 0 with
      | some 0, some 0, some 0 => if mx.isSome && hi.isNone then none else some (.val (.slice none 0 0))
      | _, _, _ => none
    | _, _ => none
  | none => none

/-- cells of a slice or string to be appended or copied: the first n -/
noncomputable def firstCells (s : St) (es n : Nat) : AV → Option (List AV)
  | .sl i o _ _ _ => match n * es with
    | 0 => some []
    | k => loadCells s i o k
  | .val (.slice none _ _) => some []
  | .nes => some []
  | .val (.string b) => some ((ltake n b.data.toList).map fun x => .val (.int .u8 x.toNat))
  | _ => none

noncomputable def lenOf : AV → Option Nat
  | .sl _ _ l _ _ => some l
  | .nes => some 0
  | .val (.slice none l _) => some l
  | .val (.string b) => some b.size
  | _ => none

noncomputable def aAppend (E : Env) (t : TypeId) (x y : AV) (s : St) : Option (AV × St) :=
  match E.ty t, lenOf y with
  | some ti, some n => match ti.k with
    | .slice elem es bytes =>
      match E.ty elem, firstCells s es n y with
      | none, _ => none
      | _, none => none
      | some _, some new =>
        match x with
        | .sl b o len cap xt =>
          if len + n ≤ cap then
            match storeCells s b (o + len * es) new with
            | some s => some (.sl b o (len + n) cap xt, s)
            | none => none
          else
            match s.h.get b with
            | some (.cells cs el _) =>
              if ((len + n) * 4 + 4096) * bytes ≤ 2 ^ 48 ∧ len + n ≤ 2 ^ 48 then
              match firstCells s es len x with
              | none => none
              | some old =>
                if xt then
                  if o = 0 ∧ cs.length = cap * es ∧ el = elem ∧ new.length = n * es ∧ new.all AV.cell = true then
                    some (.sl s.n 0 (len + n) (len + n) true, (s.upd b none).new (.cells (old ++ new) elem true))
                  else none
                else some (.sl s.n 0 (len + n) (len + n) true, s.new (.cells (old ++ new) elem true))
              else none
            | _ => none
        | .val (.slice none 0 0) =>
          match n with
          | 0 => some (x, s)
          | _ => if (n * 4 + 4096) * bytes ≤ 2 ^ 48 ∧ n ≤ 2 ^ 48 then some (.sl s.n 0 n n true, s.new (.cells new elem true)) else none
        | _ => none
    | _ => none
  | _, _ => none

/-- append(x, make([]T, n)...) -/
noncomputable def aAppendZ (E : Env) (t : TypeId) (x : AV) (n : Nat) (s : St) : Option (AV × St) :=
  match E.ty t, x with
  | some ti, .val (.slice none 0 0) => match ti.k with
    | .slice elem _ bytes => match n with
      | 0 => some (x, s)
      | _ => match E.ty elem with
        | some te => if (n * 4 + 4096) * bytes ≤ 2 ^ 40 ∧ n < 2 ^ 40 then some (.sl s.n 0 n n true, s.new (.cells (repZero te.zero n) elem true)) else none
        | none => none
    | _ => none
  | _, _ => none

noncomputable def aCopy (E : Env) (t : TypeId) (x y : AV) (s : St) : Option (Nat × St) :=
  match E.ty t, lenOf x, lenOf y with
  | some ti, some d, some l => match ti.k with
    | .slice _ es _ =>
      let n := Nat.min l d
      match firstCells s es n y with
      | some cs => match x with
        | .sl b o _ _ _ => match storeCells s b o cs with
          | some s => some (n, s)
          | none => none
        | .nes => match cs with
          | [] => some (n, s)
          | _ => none
        | .val (.slice none _ _) => some (n, s)
        | _ => none
      | none => none
    | _ => none
  | _, _, _ => none

noncomputable def aMakeSlice (E : Env) (t : TypeId) (l c : AV) (s : St) : Option (AV × St) :=
  match E.ty t, aIntOf l, aIntOf c with
  | some ti, some l, some c => match ti.k with
    | .slice elem _ bytes =>
      if 0 ≤ l ∧ l ≤ c ∧ c * bytes ≤ 2 ^ 40 ∧ c < 2 ^ 40 then
        match E.ty elem with
        | some te => some (.sl s.n 0 l.toNat c.toNat false, s.new (.cells (repZero te.zero c.toNat) elem false))
        | none => none
      else none
    | _ => none
  | _, _, _ => none

/-- operands without addresses -/
noncomputable def valO (T : Tr AV) (x : Operand) : Value :=
  match (evalO T x).toVal with
  | some v => v
  | none => .chan (some 0)

noncomputable def Value.plain : Value → Bool
  | .pointer (some _) | .slice (some _) _ _ | .map (some _) | .chan (some _) => false
  | _ => true

/-- an operation on values without addresses, by the model's own text -/
noncomputable def aPure (E : Env) (o : Oper) (T : Tr AV) (s : St) : Res :=
  if o.op.operands.all (fun x => (evalO T x).toVal.isSome) then
    match pureRun E.P (execOp (valO T) o) with
    | some (.value v) => .val (ofVal v) s
    | some .skip => .skip s
    | _ => .no 1
  else .no 2

noncomputable def addrEq (s : St) (i o j p : Nat) : Option Bool :=
  match Nat.beq i j with
  | true => some (Nat.beq o p)
  | false => match isExt s i with
    | some false => match isExt s j with
      | some false => some false
      | _ => none
    | _ => none

/-- equality where addresses are in play, by the type's kind -/
noncomputable def aEqK (k : TK) (x y : AV) (s : St) : Option Bool :=
  match k with
  | .ptr es => match x, y with
    | .ptr i o, .ptr j p => match Nat.beq es 0 with
      | true => none
      | false => addrEq s i o j p
    | .ptr .., .val (.pointer none) => some false
    | .val (.pointer none), .ptr .. => some false
    | _, _ => none
  | .slice .. => match x, y with
    | .sl .., .val (.slice none _ _) => some false
    | .val (.slice none _ _), .sl .. => some false
    | .nes, .val (.slice none _ _) => some false
    | .val (.slice none _ _), .nes => some false
    | _, _ => none
  | .mapT .. => match x, y with
    | .mp _, .val (.map none) => some false
    | .val (.map none), .mp _ => some false
    | _, _ => none
  | .func => match x, y with
    | .fn .., .val .nilFunc => some false
    | .val .nilFunc, .fn .. => some false
    | .yld _, .val .nilFunc => some false
    | .val .nilFunc, .yld _ => some false
    | _, _ => none
  | .iface => match x, y with
    | .ifc .., .val .nilIface => some false
    | .val .nilIface, .ifc .. => some false
    | .ifc t _, .ifc u _ => match Nat.beq t u with
      | true => none
      | false => some false
    | _, _ => none
  | _ => none

noncomputable def aEq (E : Env) (t : TypeId) (x y : AV) (s : St) : Option Bool :=
  match E.ty t with
  | some ti => aEqK ti.k x y s
  | none => none

noncomputable def fastWrap (n : Int) : Int :=
  @Int.rec (fun _ => Int) (fun m => @Bool.rec (fun _ => Int) (IntKind.i64.wrap (Int.ofNat m)) (Int.ofNat m) (Nat.blt m 9223372036854775808))
    (fun m => @Bool.rec (fun _ => Int) (IntKind.i64.wrap (Int.negSucc m)) (Int.negSucc m) (Nat.blt m 9223372036854775808)) n

noncomputable def bltI (a b : Int) : Bool :=
  @Int.rec (fun _ => Int → Bool) (fun x b => @Int.rec (fun _ => Nat → Bool) (fun y x => Nat.blt x y) (fun _ _ => false) b x)
    (fun x b => @Int.rec (fun _ => Nat → Bool) (fun _ _ => true) (fun y x => Nat.blt y x) b x) a b

noncomputable def beqI (a b : Int) : Bool :=
  @Int.rec (fun _ => Int → Bool) (fun x b => @Int.rec (fun _ => Nat → Bool) (fun y x => Nat.beq x y) (fun _ _ => false) b x)
    (fun x b => @Int.rec (fun _ => Nat → Bool) (fun _ _ => false) (fun y x => Nat.beq x y) b x) a b

/-- an operator on two ints (i64) -/
noncomputable def quoI (a b : Int) : AV := @Bool.rec (fun _ => AV) (.num (fastWrap (Int.tdiv a b))) .top (beqI b 0)
noncomputable def remI (a b : Int) : AV := @Bool.rec (fun _ => AV) (.num (Int.tmod a b)) .top (beqI b 0)

noncomputable def binI (op : BinOp) : Int → Int → AV :=
  @BinOp.rec (fun _ => Int → Int → AV) (fun a b => .num (fastWrap (Int.add a b))) (fun a b => .num (fastWrap (Int.sub a b))) (fun a b => .num (fastWrap (Int.mul a b)))
    quoI remI (fun _ _ => .top) (fun _ _ => .top) (fun _ _ => .top) (fun _ _ => .top) (fun _ _ => .top) (fun _ _ => .top)
    (fun a b => .bool (beqI a b)) (fun a b => .bool (!(beqI a b))) (fun a b => .bool (bltI a b)) (fun a b => .bool (!(bltI b a))) (fun a b => .bool (bltI b a)) (fun a b => .bool (!(bltI a b))) op

noncomputable def aBinV (E : Env) (o : Oper) (op : BinOp) (xt : TypeId) (u v : AV) (T : Tr AV) (s : St) : Res :=
  match op with
  | .eql => match aEq E xt u v s with
    | some b => .val (.bool b) s
    | none => aPure E o T s
  | .neq => match aEq E xt u v s with
    | some b => .val (.bool !b) s
    | none => aPure E o T s
  | _ => aPure E o T s

abbrev KontB := Env → Oper → Tr AV → St → Res

noncomputable def contBin (E : Env) (o : Oper) (T : Tr AV) (s : St) (r : AV) : Res :=
  @AV.casesOn (fun _ => KontB) r (fun E o T s => aPure E o T s) (fun n _ _ _ s => .val (.num n) s) (fun b _ _ _ s => .val (.bool b) s) (fun _ _ _ _ _ => .no 90) (fun _ _ _ _ _ _ => .no 90)
    (fun _ _ _ _ _ _ _ _ _ => .no 90) (fun _ _ _ _ => .no 90) (fun _ _ _ _ _ => .no 90) (fun _ _ _ _ _ _ _ => .no 90) (fun _ _ _ _ _ => .no 90) (fun _ _ _ _ _ _ => .no 90) (fun _ _ _ _ _ => .no 90) (fun _ _ _ _ _ => .no 90) E o T s

abbrev KontB2 := Env → Oper → BinOp → Int → Tr AV → St → Res

noncomputable def aBin2 (E : Env) (o : Oper) (op : BinOp) (a : Int) (v : AV) (T : Tr AV) (s : St) : Res :=
  @AV.casesOn (fun _ => KontB2) v (fun _ _ _ _ _ _ => .no 91) (fun b E o op a T s => contBin E o T s (binI op a b)) (fun _ _ _ _ _ _ _ => .no 91) (fun _ E o _ _ T s => aPure E o T s) (fun _ _ _ _ _ _ _ _ => .no 91)
    (fun _ _ _ _ _ _ _ _ _ _ _ => .no 91) (fun _ _ _ _ _ _ => .no 91) (fun _ _ _ _ _ _ _ => .no 91) (fun _ _ _ _ _ _ _ _ _ => .no 91) (fun _ _ _ _ _ _ _ => .no 91) (fun _ _ _ _ _ _ _ _ => .no 91) (fun _ _ _ _ _ _ _ => .no 91) (fun _ _ _ _ _ _ _ => .no 91) E o op a T s

abbrev KontB3 := Env → Oper → BinOp → TypeId → AV → Tr AV → St → Res

noncomputable def aBin (E : Env) (o : Oper) (op : BinOp) (xt : TypeId) (u v : AV) (T : Tr AV) (s : St) : Res :=
  @AV.casesOn (fun _ => KontB3) u (fun _ _ _ _ _ _ _ => .no 92) (fun a E o op _ v T s => aBin2 E o op a v T s) (fun x E o op xt v T s => aBinV E o op xt (.bool x) v T s) (fun x E o op xt v T s => aBinV E o op xt (.val x) v T s)
    (fun i p E o op xt v T s => aBinV E o op xt (.ptr i p) v T s) (fun i p l c x E o op xt v T s => aBinV E o op xt (.sl i p l c x) v T s) (fun E o op xt v T s => aBinV E o op xt .nes v T s) (fun i E o op xt v T s => aBinV E o op xt (.mp i) v T s)
    (fun f a c E o op xt v T s => aBinV E o op xt (.fn f a c) v T s) (fun l E o op xt v T s => aBinV E o op xt (.yld l) v T s) (fun t w E o op xt v T s => aBinV E o op xt (.ifc t w) v T s) (fun cs E o op xt v T s => aBinV E o op xt (.agg cs) v T s)
    (fun cs E o op xt v T s => aBinV E o op xt (.tup cs) v T s) E o op xt v T s

noncomputable def callF (E : Env) (o : Oper) (f : FuncId) (args : List AV) (s : St) (T : Tr AV) : Res :=
  match E.fn f with
  | some fn => match fn.body with
    | some _ => .enter f args s
    | none => aPure E o T s
  | none => .no 3

noncomputable def callV (E : Env) (o : Oper) (fv : AV) (args : List AV) (s : St) (T : Tr AV) : Res :=
  match fv with
  | .val (.func (.func f) ⟨[]⟩ ⟨[]⟩) => callF E o f args s T
  | .fn f first cap => callF E o f (first ++ args ++ cap) s T
  | .yld l => .round l args
  | _ => .no 4

noncomputable def lenK (k : TK) (x : AV) (s : St) : Option Nat :=
  match k with
  | .slice .. => match x with
    | .sl _ _ l _ _ => some l
    | .nes => some 0
    | _ => none
  | .mapT .. => match x with
    | .mp i => match s.h.get i with
      | some (.map es _) => some es.length
      | _ => none
    | _ => none
  | _ => none

noncomputable def lenA (E : Env) (t : TypeId) (x : AV) (s : St) : Option Nat :=
  match E.ty t with
  | some ti => lenK ti.k x s
  | none => none

noncomputable def eGet (es : List (Value × AV × Nat)) (i : Nat) : Option (Value × AV × Nat) :=
  match es, i with
  | [], _ => none
  | e :: es, i => match i with
    | 0 => some e
    | i + 1 => eGet es i

/-- the entry with a key: by the model's own text, on the keys alone -/
noncomputable def findK (E : Env) (emp : Bool) (kt : TypeId) (k : Value) (es : List (Value × AV × Nat)) : Option (Option (Nat × Value × AV × Nat)) :=
  match pureRun E.P (do Instr.checkKey emp 10000 kt k; Instr.findKey kt k (es.map fun e => ⟨e.1, .tuple #[], 0⟩)) with
  | some none => some none
  | some (some p) => match eGet es p.1 with
    | some e => some (some (p.1, e))
    | none => none
  | none => none

noncomputable def setE (es : List (Value × AV × Nat)) (i : Nat) (f : Value × AV × Nat → Value × AV × Nat) : List (Value × AV × Nat) :=
  match es, i with
  | [], _ => []
  | e :: es, i => match i with
    | 0 => f e :: es
    | i + 1 => e :: setE es i f

noncomputable def bornAt (es : List (Value × AV × Nat)) (b : Nat) : Option Nat :=
  match es with
  | [] => none
  | e :: es => if e.2.2 = b then some 0 else (bornAt es b).map (· + 1)

noncomputable def zeroOf (te : TI) : AV := match te.k with | .struct _ | .array .. => AV.agg te.zero | _ => (te.zero.head?).getD undefA

noncomputable def opMakeMap (E : Env) (o : Oper) (T : Tr AV) (s : St) (t : TypeId) (r : Option Operand) : Res :=
  match r with
  | none => .val (.mp s.n) (s.new (.map [] 0))
  | some x => match E.ty t, aIntOf (evalO T x) with
    | some ti, some _ => match ti.k with
      | .mapT .. => .val (.mp s.n) (s.new (.map [] 0))
      | _ => .no 20
    | _, _ => .no 20

noncomputable def mapOf (E : Env) (kt : TypeId) (kv : Value) (x : AV) (s : St) : Option (Option (Nat × Value × AV × Nat)) :=
  match x with
  | .val (.map none) => findK E true kt kv []
  | .mp i => match s.h.get i with
    | some (.map es _) => findK E es.isEmpty kt kv es
    | _ => none
  | _ => none

noncomputable def opLookup (E : Env) (o : Oper) (T : Tr AV) (s : St) (t : TypeId) (x k : Operand) (ok : Bool) : Res :=
  match E.ty t with
  | some ti => match ti.k with
    | .mapT kt et => match (evalO T k).toVal with
      | some kv => match mapOf E kt kv (evalO T x) s, E.ty et with
        | some (some (_, _, v, _)), _ => .val (if ok then .tup [v, .bool true] else v) s
        | some none, some te => .val (if ok then .tup [zeroOf te, .bool false] else zeroOf te) s
        | _, _ => .no 21
      | none => .no 23
    | _ => .no 24
  | none => .no 25

noncomputable def opUpdate (E : Env) (o : Oper) (T : Tr AV) (s : St) (t : TypeId) (m k v : Operand) : Res :=
  match E.ty t with
  | some ti => match ti.k with
    | .mapT kt _ => match (evalO T k).toVal, evalO T m with
      | some kv, .mp i => match s.h.get i with
        | some (.map es c) => match findK E false kt kv es with
          | some (some (j, k', _)) => match Instr.sameBits 10000 k' kv with
            | true => .skip (s.upd i (some (.map (setE es j fun e => (kv, evalO T v, e.2.2)) c)))
            | false => .no 26
          | some none => .skip (s.upd i (some (.map (es ++ [(kv, evalO T v, c)]) (c + 1))))
          | none => .no 26
        | _ => .no 27
      | _, _ => .no 29
    | _ => .no 30
  | none => .no 31

noncomputable def opMapEntry (E : Env) (o : Oper) (T : Tr AV) (s : St) (t : TypeId) (m k : Operand) : Res :=
  match E.ty t with
  | some ti => match ti.k with
    | .mapT kt et => match (evalO T k).toVal, evalO T m with
      | some kv, .mp i => match s.h.get i with
        | some (.map es c) => match findK E false kt kv es, E.ty et with
          | some (some (j, k', v, b)), _ => match Instr.sameBits 10000 k' kv with
            | true => .val (.tup [v, .num b]) (s.upd i (some (.map (setE es j fun e => (kv, e.2.1, e.2.2)) c)))
            | false => .no 32
          | some none, some te => .val (.tup [zeroOf te, .num c]) (s.upd i (some (.map (es ++ [(kv, zeroOf te, c)]) (c + 1))))
          | _, _ => .no 32
        | _ => .no 33
      | _, _ => .no 35
    | _ => .no 36
  | none => .no 37

noncomputable def opEntryStore (E : Env) (o : Oper) (T : Tr AV) (s : St) (m st v : Operand) : Res :=
  match evalO T m, aIntOf (evalO T st) with
  | .mp i, some b => match s.h.get i with
    | some (.map es c) => if 0 ≤ b then match bornAt es b.toNat with
        | some j => .skip (s.upd i (some (.map (setE es j fun e => (e.1, evalO T v, e.2.2)) c)))
        | none => .no 38
      else .no 38
    | _ => .no 39
  | _, _ => .no 40

noncomputable def opRange (E : Env) (o : Oper) (T : Tr AV) (s : St) (t : TypeId) (x : Operand) : Res :=
  match E.ty t with
  | some ti => match ti.k, evalO T x with
    | .str, .val (.string b) => .val (.ptr s.n 0) (s.new (.siter b 0))
    | .mapT .., .val (.map none) => .val (.ptr s.n 0) (s.new (.miter none 0 [] 0))
    | .mapT .., .mp i => match s.h.get i with
      | some (.map _ c) => .val (.ptr s.n 0) (s.new (.miter (some i) c [] c))
      | _ => .no 41
    | _, _ => .no 42
  | none => .no 43

noncomputable def nextMap (s : St) (r m since : Nat) (seen : List Nat) (last : Nat) (es : List (Value × AV × Nat)) (c : Nat) : Res :=
  if !seen.isEmpty && !es.isEmpty && es.all (fun e => decide (e.2.2 ≥ last)) then .no 44 else
  match es.filter (fun e => !seen.contains e.2.2) with
  | [] => .val (.tup [.bool false]) s
  | [e] => if e.2.2 < since then .val (.tup [.bool true, ofConst e.1, e.2.1]) (s.upd r (some (.miter (some m) since (seen ++ [e.2.2]) c))) else .no 45
  | _ => .no 46

noncomputable def opNext (E : Env) (o : Oper) (T : Tr AV) (s : St) (x : Operand) (isS : Bool) : Res :=
  match evalO T x with
  | .ptr r 0 => match s.h.get r, isS with
    | some (.siter b pos), true =>
      if pos < b.size then
        .val (.tup [.bool true, .num pos, .val (.int .i32 (Utf8.decode b pos).1)]) (s.upd r (some (.siter b (pos + (Utf8.decode b pos).2))))
      else .val (.tup [.bool false]) s
    | some (.miter none _ _ _), false => .val (.tup [.bool false]) s
    | some (.miter (some m) since seen last), false =>
      match s.h.get m with
      | some (.map es c) => nextMap s r m since seen last es c
      | _ => .no 47
    | _, _ => .no 48
  | _ => .no 49

noncomputable def opEntry (E : Env) (o : Oper) (T : Tr AV) (s : St) (x : Operand) : Res :=
  match evalO T x with
  | .ptr r 0 => match s.h.get r with
    | some (.miter (some m) _ seen stepped) => match seen.getLast?, s.h.get m with
      | some b, some (.map es c) => if c = stepped then match es.find? (fun e => e.2.2 == b) with
          | some e => .val (.tup [ofConst e.1, e.2.1]) s
          | none => .no 50
        else .no 51
      | _, _ => .no 52
    | _ => .no 53
  | _ => .no 54

noncomputable def opMove (E : Env) (o : Oper) (T : Tr AV) (s : St) (x : Operand) : Res :=
  .val (evalO T x) s

noncomputable def opPick (E : Env) (o : Oper) (T : Tr AV) (s : St) (c a b : Operand) : Res :=
  match evalO T c with
    | .bool c => .val (cond c (evalO T a) (evalO T b)) s
    | _ => .no 5

noncomputable def opLoad (E : Env) (o : Oper) (T : Tr AV) (s : St) (t : TypeId) (a : Operand) : Res :=
  match aLoad E t (evalO T a) s with
    | some v => .val v s
    | none => .no 6

noncomputable def opStore (E : Env) (o : Oper) (T : Tr AV) (s : St) (t : TypeId) (a v : Operand) : Res :=
  match aStore E t (evalO T a) (evalO T v) s with
    | some s => .skip s
    | none => .no 7

noncomputable def opFieldAddr (E : Env) (o : Oper) (T : Tr AV) (s : St) (st : TypeId) (x : Operand) (f : Nat) : Res :=
  match E.ty st, evalO T x with
    | some ti, .ptr i off => match ti.k with
      | .struct fs => match fieldOf fs f with
        | some (fo, sz) => if sz = 0 then .no 8 else .val (.ptr i (off + fo)) s
        | none => .no 8
      | _ => .no 8
    | _, _ => .no 8

noncomputable def opBinOp (E : Env) (o : Oper) (T : Tr AV) (s : St) (op : BinOp) (xt : TypeId) (x y : Operand) (yt : TypeId) : Res :=
  aBin E o op xt (evalO T x) (evalO T y) T s

noncomputable def opAlloc (E : Env) (o : Oper) (T : Tr AV) (s : St) (t : TypeId) : Res :=
  match E.ty t with
    | some ti => .val (.ptr s.n 0) (s.new (.cells ti.zero t false))
    | none => .no 9

noncomputable def opBox (E : Env) (o : Oper) (T : Tr AV) (s : St) (t : TypeId) (x : Operand) : Res :=
  match (evalO T x).cells with
  | some cs => .val (.ptr s.n 0) (s.new (.cells cs t false))
  | none => .no 94

noncomputable def opIndexAddr (E : Env) (o : Oper) (T : Tr AV) (s : St) (t : TypeId) (x ix : Operand) : Res :=
  match aIndexAddr E t (evalO T x) (evalO T ix) with
    | some v => .val v s
    | none => .no 10

noncomputable def opBuild (E : Env) (o : Oper) (T : Tr AV) (s : St) (t : TypeId) (parts : Array (Nat × Operand)) : Res :=
  match aBuild E t (parts.toList.map fun (i, x) => (i, evalO T x)) with
    | some v => .val v s
    | none => .no 11

noncomputable def opBuildSlice (E : Env) (o : Oper) (T : Tr AV) (s : St) (t : TypeId) (len : Nat) (parts : Array (Nat × Operand)) : Res :=
  match aBuildSlice E t len (parts.toList.map fun (i, x) => (i, evalO T x)) with
    | some (cs, e) => .val (.sl s.n 0 len len false) (s.new (.cells cs e false))
    | none => .no 12

noncomputable def opNilCheck (E : Env) (o : Oper) (T : Tr AV) (s : St) (x : Operand) : Res :=
  match evalO T x with
    | .ptr i off => .val (.ptr i off) s
    | .fn f a c => .val (.fn f a c) s
    | .yld l => .val (.yld l) s
    | .val (.func (.func f) a c) => .val (.val (.func (.func f) a c)) s
    | _ => .no 13

noncomputable def opExtract (E : Env) (o : Oper) (T : Tr AV) (s : St) (t : Operand) (ix : Nat) : Res :=
  match evalO T t with
    | .tup vs => match lget vs ix with
      | some v => .val v s
      | none => .no 14
    | _ => .no 14

noncomputable def opField (E : Env) (o : Oper) (T : Tr AV) (s : St) (xt : TypeId) (x : Operand) (f : Nat) : Res :=
  match E.ty xt, evalO T x with
    | some ti, .agg cs => match ti.k with
      | .struct fs => match fieldOf3 fs f with
        | some (fo, sz, true) =>
          let r := ltake sz (ldrop fo cs)
          if r.length = sz then .val (.agg r) s else .no 15
        | some (fo, _, false) => match lget cs fo with
          | some v => .val v s
          | none => .no 15
        | none => .no 15
      | _ => .no 15
    | _, _ => .no 15

noncomputable def opIndex (E : Env) (o : Oper) (T : Tr AV) (s : St) (xt : TypeId) (x ix : Operand) : Res :=
  match evalO T x with
    | .agg cs => match E.ty xt, aIntOf (evalO T ix) with
      | some ti, some i => match ti.k with
        | .array n es ea => if 0 ≤ i ∧ i < n then
            if ea then
              let r := ltake es (ldrop (i.toNat * es) cs)
              if r.length = es then .val (.agg r) s else .no 16
            else match lget cs (i.toNat * es) with
              | some v => .val v s
              | none => .no 16
          else .no 16
        | _ => .no 16
      | _, _ => .no 16
    | _ => aPure E o T s

noncomputable def opMakeFunc (E : Env) (o : Oper) (T : Tr AV) (s : St) (f : Fn) (first cap : Array Operand) : Res :=
  match f with
    | .func f => .val (.fn f (first.toList.map (evalO T)) (cap.toList.map (evalO T))) s
    | _ => .no 17

noncomputable def opMakeInterface (E : Env) (o : Oper) (T : Tr AV) (s : St) (t : TypeId) (x : Operand) : Res :=
  match E.ty t with
    | some ti => match ti.k with
      | .iface => .no 18
      | _ => .val (.ifc t (evalO T x)) s
    | none => .no 18

noncomputable def opTypeAssert (E : Env) (o : Oper) (T : Tr AV) (s : St) (x : Operand) (xt t : TypeId) (ok : Bool) : Res :=
  match evalO T x with
    | .ifc u v => match E.ty t with
      | some ti => match ti.k with
        | .iface => aPure E o T s
        | _ => if u = t then .val (if ok then .tup [v, .bool true] else v) s
          else if ok then .val (.tup [match ti.k with | .struct _ | .array .. => .agg ti.zero | _ => (ti.zero.head?).getD undefA, .bool false]) s
          else .no 19
      | none => .no 19
    | _ => aPure E o T s

noncomputable def opMakeSlice (E : Env) (o : Oper) (T : Tr AV) (s : St) (t : TypeId) (l c : Operand) : Res :=
  match aMakeSlice E t (evalO T l) (evalO T c) s with
    | some (v, s) => .val v s
    | none => .no 60

noncomputable def opSlice (E : Env) (o : Oper) (T : Tr AV) (s : St) (t : TypeId) (x : Operand) (lo hi mx : Option Operand) : Res :=
  match evalO T x with
    | .val (.string _) => aPure E o T s
    | v => match aSlice E t v (lo.map (evalO T)) (hi.map (evalO T)) (mx.map (evalO T)) with
      | some v => .val v s
      | none => .no 61

noncomputable def bytesL : List Value → ByteArray → Option ByteArray
  | [], b => some b
  | v :: vs, b => match v with
    | .int .u8 n => bytesL vs (b.push (UInt8.ofNat n.toNat))
    | _ => none

noncomputable def opConvert (E : Env) (o : Oper) (T : Tr AV) (s : St) (src dst : TypeId) (x : Operand) : Res :=
  match evalO T x with
    | .val (.string b) => match E.ty dst, E.ty src with
      | some ti, some _ => match ti.k with
        | .slice elem _ _ => match E.ty elem with
          | some te => match te.k with
            | .sc .u8 => .val (.sl s.n 0 b.size b.size true) (s.new (.cells (b.data.toList.map fun x => .val (.int .u8 x.toNat)) elem true))
            | _ => .no 62
          | none => .no 62
        | _ => aPure E o T s
      | _, _ => .no 62
    | .sl i off len _ _ => match E.ty dst, E.ty src with
      | some td, some ts => match td.k, ts.k with
        | .str, .slice elem _ _ => match E.ty elem, loadCells s i off len with
          | some te, some cs => match te.k, AV.toVals cs with
            | .sc .u8, some vs => match bytesL vs .empty with
              | some b => .val (.val (.string b)) s
              | none => .no 63
            | _, _ => .no 63
          | _, _ => .no 63
        | _, _ => .no 64
      | _, _ => .no 64
    | _ => aPure E o T s

noncomputable def opCall (E : Env) (o : Oper) (T : Tr AV) (s : St) (c : Call) : Res :=
  match c.callee with
    | .builtin b => match b, c.args.toList, c.argTypes.toList with
      | .len, [x], [t] => match lenA E t (evalO T x) s with
        | some n => .val (.num n) s
        | none => aPure E o T s
      | .cap, [x], [t] => match evalO T x with
        | .sl _ _ _ cp x => match x with
          | false => match E.ty t with
            | some ti => match ti.k with
              | .slice .. => .val (.num cp) s
              | _ => .no 65
            | none => .no 65
          | true => .no 65
        | _ => aPure E o T s
      | .append, [x, y], [t, u] => match E.ty u with
        | some tu => match tu.k with
          | .sc _ => match aIntOf (evalO T y) with
            | some i => if 0 ≤ i then match aAppendZ E t (evalO T x) i.toNat s with
                | some (v, s) => .val v s
                | none => .no 66
              else .no 66
            | none => .no 66
          | _ => match aAppend E t (evalO T x) (evalO T y) s with
            | some (v, s) => .val v s
            | none => .no 67
        | none => .no 68
      | .copy, [x, y], t :: _ => match aCopy E t (evalO T x) (evalO T y) s with
        | some (n, s) => .val (.num n) s
        | none => .no 69
      | .min, [x, y], _ => match evalO T x with
        | .num a => match evalO T y with
          | .num b => .val (.num (cond (bltI b a) b a)) s
          | _ => aPure E o T s
        | _ => aPure E o T s
      | .max, [x, y], _ => match evalO T x with
        | .num a => match evalO T y with
          | .num b => .val (.num (cond (bltI a b) b a)) s
          | _ => aPure E o T s
        | _ => aPure E o T s
      | .recover, _, _ => .recover
      | .panic, [x], _ => match evalO T x with
        | .ifc t v => .panic (.ifc t v) s
        | _ => .no 70
      | _, _, _ => aPure E o T s
    | .value f => callV E o (evalO T f) (c.args.toList.map (evalO T)) s T
    | .invoke .. => .no 71

noncomputable def opDefer (E : Env) (o : Oper) (T : Tr AV) (s : St) (c : Call) : Res :=
  match c.callee with
    | .value f => match evalO T f with
      | .fn f a b => .defer ⟨.fn f a b, c.args.toList.map (evalO T), none⟩
      | .val (.func f a b) => .defer ⟨.val (.func f a b), c.args.toList.map (evalO T), none⟩
      | _ => .no 72
    | _ => .no 72

noncomputable def opPanic (E : Env) (o : Oper) (T : Tr AV) (s : St) (x : Operand) : Res :=
  match evalO T x with
    | .ifc t v => .panic (.ifc t v) s
    | .val (.iface t v) => .panic (.val (.iface t v)) s
    | _ => .no 73

noncomputable def opUn (E : Env) (o : Oper) (T : Tr AV) (s : St) (op : UnOp) (x : Operand) : Res :=
  match op with
  | .neg => match evalO T x with
    | .num n => .val (.num (fastWrap (Int.sub 0 n))) s
    | _ => aPure E o T s
  | .not => match evalO T x with
    | .bool b => .val (.bool !b) s
    | _ => aPure E o T s
  | _ => aPure E o T s

noncomputable def aOp (E : Env) (o : Oper) (T : Tr AV) (s : St) : Res :=
  @Op.rec (fun _ => Env → Oper → Tr AV → St → Res)
    (fun x E o T s => opMove E o T s x)
    (fun x E o T s => opMove E o T s x)
    (fun c a b E o T s => opPick E o T s c a b)
    (fun t E o T s => opAlloc E o T s t)
    (fun t x E o T s => opBox E o T s t x)
    (fun t parts E o T s => opBuild E o T s t parts)
    (fun t len parts E o T s => opBuildSlice E o T s t len parts)
    (fun t m k v E o T s => opUpdate E o T s t m k v)
    (fun t a E o T s => opLoad E o T s t a)
    (fun t a v E o T s => opStore E o T s t a v)
    (fun _ E o T s => aPure E o T s)
    (fun _ E o T s => aPure E o T s)
    (fun x E o T s => opNilCheck E o T s x)
    (fun op xt x y yt E o T s => opBinOp E o T s op xt x y yt)
    (fun op _ x E o T s => opUn E o T s op x)
    (fun src dst x E o T s => opConvert E o T s src dst x)
    (fun _ _ E o T s => aPure E o T s)
    (fun t x E o T s => opMakeInterface E o T s t x)
    (fun f first cap E o T s => opMakeFunc E o T s f first cap)
    (fun t r E o T s => opMakeMap E o T s t r)
    (fun _ _ _ _ _ _ => .no 93)
    (fun t l c E o T s => opMakeSlice E o T s t l c)
    (fun t x lo hi mx E o T s => opSlice E o T s t x lo hi mx)
    (fun st x f E o T s => opFieldAddr E o T s st x f)
    (fun xt x f E o T s => opField E o T s xt x f)
    (fun t x ix E o T s => opIndexAddr E o T s t x ix)
    (fun xt x ix E o T s => opIndex E o T s xt x ix)
    (fun t x k ok E o T s => opLookup E o T s t x k ok)
    (fun t m k v E o T s => opUpdate E o T s t m k v)
    (fun t m k E o T s => opMapEntry E o T s t m k)
    (fun _ m st v E o T s => opEntryStore E o T s m st v)
    (fun t x E o T s => opRange E o T s t x)
    (fun x isS E o T s => opNext E o T s x isS)
    (fun x E o T s => opEntry E o T s x)
    (fun x xt t ok E o T s => opTypeAssert E o T s x xt t ok)
    (fun t ix E o T s => opExtract E o T s t ix)
    (fun c E o T s => opCall E o T s c)
    (fun _ _ _ _ _ => .no 93)
    (fun c E o T s => opDefer E o T s c)
    (fun x E o T s => opPanic E o T s x)
    (fun _ _ _ _ _ _ => .no 93)
    (fun _ _ _ _ _ _ _ => .no 93)
    (fun _ _ _ _ _ _ => .no 93)
    o.op E o T s

/-- which operations of a drawn region may come at any time -/
noncomputable def light (o : Oper) : Bool :=
  match o.op with
  | .move _ | .assign _ | .pick .. | .alloc _ | .box .. | .build .. | .buildSlice .. | .load .. | .nilCheck _ | .binOp .. | .unOp .. | .makeInterface .. | .makeFunc .. | .makeSlice .. | .slice .. | .fieldAddr .. | .field ..
  | .indexAddr .. | .index .. | .lookup .. | .typeAssert .. | .extract .. => true
  | .call c => match c.callee with
    | .builtin b => match b with
      | .len | .min | .max => true
      | _ => false
    | _ => false
  | _ => false

/-- it reads what others may write -/
noncomputable def reader (o : Oper) : Bool :=
  match o.op with
  | .load .. | .lookup .. | .entry .. => true
  | .binOp op .. => match op with
    | .eql => true
    | .neq => true
    | _ => false
  | .call c => match c.callee with
    | .builtin b => match b with
      | .len => true
      | _ => false
    | _ => false
  | _ => false

noncomputable def hasEdge (o : Oper) (j : Nat) : Bool := o.after.toList.any fun e => Region.binds .any e && Nat.beq e.on j

/-- o looks at slot d -/
noncomputable def looks (ops : Array Oper) (o : Oper) (d : Tmp) : Bool :=
  (o.op.operands.toList.any fun x => match x with | .tmp t => Nat.beq t d | _ => false) ||
  (match o.guard with
   | some g => match ops[g.1]? with
     | some q => match q.dst with
       | some t => Nat.beq t d
       | none => false
     | none => false
   | none => false)

/-- it may come at any time, and none looks at its slot but those that wait for it -/
noncomputable def lightIn (ops : Array Oper) (j : Nat) (o : Oper) : Bool :=
  light o && match o.dst with
    | none => true
    | some d => (List.range ops.size).all fun i => match ops[i]? with
      | some oi => !(looks ops oi d) || hasEdge oi j
      | none => true

noncomputable def isReady (ops : Array Oper) (done : List Nat) (i : Nat) : Bool :=
  match ops[i]? with
  | some o => o.after.toList.all fun e => !Region.binds .any e || done.contains e.on
  | none => false

/-- the lights that are ready, then the first heavy one: (index, heavy) -/
noncomputable def planGo (ops : Array Oper) : Nat → List Nat → List Nat → List (Nat × Bool)
  | 0, _, _ => []
  | k + 1, done, left =>
    match left.find? (fun i => match ops[i]? with | some o => lightIn ops i o && isReady ops done i | none => false) with
    | some i => (i, false) :: planGo ops k (i :: done) (left.filter (· != i))
    | none => match left.find? (isReady ops done) with
      | some i => (i, true) :: planGo ops k (i :: done) (left.filter (· != i))
      | none => []

noncomputable def plan (ops : Array Oper) : List (Nat × Bool) := planGo ops ops.size [] (List.range ops.size)

/-- readers that are taken and that op i does not wait for -/
noncomputable def openReaders (ops : Array Oper) (i : Nat) (done : List Nat) : List Nat :=
  done.filter fun j => match ops[j]? with
    | some o => reader o && !(match ops[i]? with | some oi => oi.after.toList.any fun e => Region.binds .any e && e.on == j | none => false)
    | none => false

noncomputable def pick (ops : Array Oper) (js : List Nat) : List Oper := js.filterMap fun j => ops[j]?

noncomputable def planGoI (ops : Array Oper) : List (Nat × Bool) → List Nat → List (Nat × Option (List Nat))
  | [], _ => []
  | p :: rest, done => (p.1, if p.2 then some (openReaders ops p.1 done) else none) :: planGoI ops rest (p.1 :: done)

/-- the order of a drawn region: lights (none) as early as may be, heavies with the readers to be checked anew -/
noncomputable def planI (ops : Array Oper) : List (Nat × Option (List Nat)) := planGoI ops (plan ops) []

noncomputable def toOps (ops : Array Oper) : List (Nat × Option (List Nat)) → List (Oper × Option (List Oper))
  | [] => []
  | p :: rest => match ops[p.1]? with
    | some o => (o, match p.2 with | some js => some (pick ops js) | none => none) :: toOps ops rest
    | none => []

noncomputable def planR (ops : Array Oper) : List (Oper × Option (List Oper)) := toOps ops (planI ops)

mutual
noncomputable def AV.same : AV → AV → Bool
  | .num x, .num y => x == y
  | .bool x, .bool y => x == y
  | .val a, .val b => match a, b with
    | .int k x, .int q y => k == q && x == y
    | .bool x, .bool y => x == y
    | .string x, .string y => x == y
    | .pointer none, .pointer none => true
    | .slice none l c, .slice none l' c' => l == l' && c == c'
    | .map none, .map none => true
    | .nilFunc, .nilFunc => true
    | .nilIface, .nilIface => true
    | .func (.func f) ⟨[]⟩ ⟨[]⟩, .func (.func g) ⟨[]⟩ ⟨[]⟩ => f == g
    | _, _ => false
  | .ptr i o, .ptr j p => i == j && o == p
  | .nes, .nes => true
  | .sl i o l c x, .sl j p m d y => i == j && o == p && l == m && c == d && x == y
  | .mp i, .mp j => i == j
  | .fn f a c, .fn g b d => f == g && AV.sames a b && AV.sames c d
  | .yld l, .yld m => l == m
  | .ifc t v, .ifc u w => t == u && AV.same v w
  | .agg a, .agg b => AV.sames a b
  | .tup a, .tup b => AV.sames a b
  | _, _ => false
noncomputable def AV.sames : List AV → List AV → Bool
  | [], [] => true
  | x :: xs, y :: ys => AV.same x y && AV.sames xs ys
  | _, _ => false
end

inductive Out where
  | no (why : Nat)
  | normal (T : Tr AV) (df : List ADef) (s : St)
  | exit (id : Nat) (T : Tr AV) (df : List ADef) (s : St)
  | ret (T : Tr AV) (df : List ADef) (s : St)
  | val (v : AV) (s : St)
  | panic (c : List APan) (T : Tr AV) (df : List ADef) (s : St)

inductive Task where
  | code (around : Option Nat) (c : Code) (T : Tr AV) (df : List ADef) (f : FuncId)
  | call (f : FuncId) (args : List AV)
  | calld (f : FuncId) (args : List AV)
  | leave (fn : Func) (T : Tr AV) (df : List ADef) (u : AMode)
  | round (l : Nat) (args : List AV)

noncomputable def opAt (ops : List Oper) (j : Nat) : Option Oper :=
  match ops with
  | [] => none
  | o :: os => match j with
    | 0 => some o
    | j + 1 => opAt os j

noncomputable def wantedG (ops : List Oper) (T : Tr AV) (g : Nat × Bool) : Option Bool :=
  match opAt ops g.1 with
  | some o => match o.dst with
    | some d => match T.get d with
      | some (.bool b) => some (b == g.2)
      | some (.tup []) => some false
      | _ => none
    | none => some false
  | none => some false

noncomputable def wantedA (ops : List Oper) (o : Oper) (T : Tr AV) : Option Bool :=
  @Option.rec (Nat × Bool) (fun _ => List Oper → Tr AV → Option Bool) (fun _ _ => some true) (fun g ops T => wantedG ops T g) o.guard ops T

noncomputable def load {α : Type} (t : Tr α) (i : Nat) (xs : List α) : Tr α :=
  @List.rec α (fun _ => Tr α → Nat → Tr α) (fun t _ => t) (fun x _ ih t i => ih (Tr.put bits t i (some x)) (Nat.succ i)) xs t i

noncomputable def resultA (E : Env) (T : Tr AV) (s : St) : ResultVar → Option AV
  | .tmp t => some (evalO T (.tmp t))
  | .cell a t => aLoad E t (evalO T (.tmp a)) s

noncomputable def resultsL (E : Env) (T : Tr AV) (s : St) : List ResultVar → Option (List AV)
  | [] => some []
  | r :: rs => match resultA E T s r, resultsL E T s rs with
    | some v, some vs => some (v :: vs)
    | _, _ => none

noncomputable def resultsT (E : Env) (fn : Func) (T : Tr AV) (s : St) : Option AV :=
  match resultsL E T s fn.results.toList with
  | some [v] => some v
  | some vs => some (.tup vs)
  | none => none

noncomputable def settleA : AMode → AMode
  | .panicking (⟨_, true⟩ :: _) => .returning
  | m => m
noncomputable def raisedA (u : AMode) (c : List APan) : AMode :=
  match u with
  | .panicking old => .panicking (c ++ old)
  | _ => .panicking c

noncomputable def recheck1 (E : Env) (ops : List Oper) (T : Tr AV) (s : St) (o : Oper) (d : Tmp) : Bool :=
  match wantedA ops o T with
  | some true => match aOp E o T s with
    | .val v _ => match T.get d with
      | some w => AV.same v w
      | none => false
    | _ => false
  | some false => true
  | none => false

noncomputable def recheck (E : Env) (ops : List Oper) (T : Tr AV) (s : St) (js : List Oper) : Bool :=
  @List.rec Oper (fun _ => Env → List Oper → Tr AV → St → Bool) (fun _ _ _ _ => true)
    (fun o _ ih E ops T s => @Option.rec Tmp (fun _ => Bool) (ih E ops T s) (fun d => @Bool.rec (fun _ => Bool) false (ih E ops T s) (recheck1 E ops T s o d)) o.dst) js E ops T s

noncomputable def forget (T : Tr AV) : List Oper → Tr AV
  | [] => T
  | o :: os => forget (putT T o.dst .top) os

abbrev Rec := Task → St → Out
abbrev Kont := Tr AV → List ADef → St → Out

noncomputable def contCall (dst : Option Tmp) (T : Tr AV) (df : List ADef) (k : Kont) (r : Out) : Out :=
  @Out.rec (fun _ => Option Tmp → Tr AV → List ADef → Kont → Out) (fun w _ _ _ _ => .no w) (fun _ _ _ _ _ _ _ => .no 111) (fun _ _ _ _ _ _ _ _ => .no 111) (fun _ _ _ _ _ _ _ => .no 111)
    (fun v s dst T df k => k (putT T dst v) df s) (fun c _ _ s _ T df _ => .panic c T df s) r dst T df k

noncomputable def contRecover (ar : Option Nat) (dst : Option Tmp) (T : Tr AV) (df : List ADef) (k : Kont) (s : St) : Out :=
  match ar with
  | none => match s.u with
    | some (.panicking (⟨v, false⟩ :: older)) => k (putT T dst v) df { s with u := some (.panicking (⟨v, true⟩ :: older)) }
    | _ => k (putT T dst (.val .nilIface)) df s
  | some _ => .no 114

noncomputable def contDefer (ar : Option Nat) (dst : Option Tmp) (T : Tr AV) (df : List ADef) (k : Kont) (s : St) (d : ADef) : Out :=
  match ar with
  | none => k (putT T dst undefA) (d :: df) s
  | some _ => .no 113

abbrev KontR := Rec → Option Nat → Option Tmp → Tr AV → List ADef → Kont → St → Out

noncomputable def contOp (ev : Rec) (ar : Option Nat) (dst : Option Tmp) (T : Tr AV) (df : List ADef) (k : Kont) (s : St) (r : Res) : Out :=
  @Res.rec (fun _ => KontR) (fun v s _ _ dst T df k _ => k (putT T dst v) df s) (fun s _ _ dst T df k _ => k (putT T dst undefA) df s)
    (fun f args s ev _ dst T df k _ => contCall dst T df k (ev (.call f args) s)) (fun l args ev _ dst T df k s => contCall dst T df k (ev (.round l args) s))
    (fun d _ ar dst T df k s => contDefer ar dst T df k s d) (fun _ ar dst T df k s => contRecover ar dst T df k s)
    (fun v s _ _ _ T df _ _ => .panic [⟨v, false⟩] T df s) (fun w _ _ _ _ _ _ _ => .no (1000 + w)) r ev ar dst T df k s

noncomputable def oneOp (E : Env) (ev : Rec) (ar : Option Nat) (all : List Oper) (o : Oper) (k : Kont) (T : Tr AV) (df : List ADef) (s : St) : Out :=
  @Option.rec Bool (fun _ => Out) (.no 115) (fun b => @Bool.rec (fun _ => Out) (k (putT T o.dst undefA) df s) (contOp ev ar o.dst T df k s (aOp E o T s)) b) (wantedA all o T)

noncomputable def runOps (E : Env) (ev : Rec) (ar : Option Nat) (all os : List Oper) : Kont :=
  @List.rec Oper (fun _ => Kont) (fun T df s => .normal T df s) (fun o _ ih T df s => oneOp E ev ar all o ih T df s) os

noncomputable def contD (E : Env) (all rs : List Oper) (k : Kont) (T : Tr AV) (df : List ADef) (s : St) : Out :=
  @Bool.rec (fun _ => Out) (.no 215) (k T df s) (recheck E all T s rs)

abbrev KontD := Env → List Oper → List Oper → Option Tmp → Tr AV → List ADef → Kont → Out

noncomputable def contCallD (E : Env) (all rs : List Oper) (dst : Option Tmp) (T : Tr AV) (df : List ADef) (k : Kont) (r : Out) : Out :=
  @Out.rec (fun _ => KontD) (fun w _ _ _ _ _ _ _ => .no w) (fun _ _ _ _ _ _ _ _ _ _ => .no 211) (fun _ _ _ _ _ _ _ _ _ _ _ => .no 211) (fun _ _ _ _ _ _ _ _ _ _ => .no 211)
    (fun v s E all rs dst T df k => contD E all rs k (putT T dst v) df s) (fun c _ _ s _ all _ _ T df _ => .panic c (forget T all) df s) r E all rs dst T df k

abbrev KontRD := Env → Rec → List Oper → List Oper → Option Tmp → Tr AV → List ADef → Kont → St → Out

noncomputable def contOpD (E : Env) (ev : Rec) (all rs : List Oper) (dst : Option Tmp) (T : Tr AV) (df : List ADef) (k : Kont) (s : St) (r : Res) : Out :=
  @Res.rec (fun _ => KontRD) (fun v s E _ all rs dst T df k _ => contD E all rs k (putT T dst v) df s) (fun s E _ all rs dst T df k _ => contD E all rs k (putT T dst undefA) df s)
    (fun f args s E ev all rs dst T df k _ => contCallD E all rs dst T df k (ev (.call f args) s)) (fun l args E ev all rs dst T df k s => contCallD E all rs dst T df k (ev (.round l args) s))
    (fun _ _ _ _ _ _ _ _ _ _ => .no 213) (fun _ _ _ _ _ _ _ _ _ => .no 214)
    (fun v s _ _ all _ _ T df _ _ => .panic [⟨v, false⟩] (forget T all) df s) (fun w _ _ _ _ _ _ _ _ _ => .no (2000 + w)) r E ev all rs dst T df k s

noncomputable def oneOpD (E : Env) (ev : Rec) (all rs : List Oper) (o : Oper) (k : Kont) (T : Tr AV) (df : List ADef) (s : St) : Out :=
  @Option.rec Bool (fun _ => Out) (.no 219) (fun b => @Bool.rec (fun _ => Out) (contD E all rs k (putT T o.dst undefA) df s) (contOpD E ev all rs o.dst T df k s (aOp E o T s)) b) (wantedA all o T)

noncomputable def contLight (dst : Option Tmp) (T : Tr AV) (df : List ADef) (k : Kont) (r : Res) : Out :=
  match r with
  | .val v s => k (putT T dst v) df s
  | _ => .no 220

noncomputable def oneLightD (E : Env) (all : List Oper) (o : Oper) (k : Kont) (T : Tr AV) (df : List ADef) (s : St) : Out :=
  @Option.rec Bool (fun _ => Out) (.no 221) (fun b => @Bool.rec (fun _ => Out) (k (putT T o.dst undefA) df s) (contLight o.dst T df k (aOp E o T s)) b) (wantedA all o T)

noncomputable def runOpsD (E : Env) (ev : Rec) (all : List Oper) (os : List (Oper × Option (List Oper))) : Kont :=
  @List.rec (Oper × Option (List Oper)) (fun _ => Kont) (fun T df s => .normal T df s)
    (fun p _ ih T df s => @Option.rec (List Oper) (fun _ => Out) (oneLightD E all p.1 ih T df s) (fun rs => oneOpD E ev all rs p.1 ih T df s) p.2) os

noncomputable def evRegion (E : Env) (ev : Rec) (ar : Option Nat) (ops : Array Oper) (d : Bool) : Kont :=
  @Bool.rec (fun _ => Kont) (runOps E ev ar ops.toList ops.toList) (runOpsD E ev ops.toList (planR ops)) d

noncomputable def contSeq (ev : Rec) (ar : Option Nat) (b : Code) (f : FuncId) (r : Out) : Out :=
  @Out.rec (fun _ => Rec → Option Nat → Code → FuncId → Out) (fun w _ _ _ _ => .no w) (fun T df s ev ar b f => ev (.code ar b T df f) s) (fun id T df s _ _ _ _ => .exit id T df s)
    (fun T df s _ _ _ _ => .ret T df s) (fun v s _ _ _ _ => .val v s) (fun c T df s _ _ _ _ => .panic c T df s) r ev ar b f

noncomputable def contBlock (id : Nat) (r : Out) : Out :=
  @Out.rec (fun _ => Nat → Out) (fun w _ => .no w) (fun T df s _ => .normal T df s) (fun id' T df s id => @Bool.rec (fun _ => Out) (.exit id' T df s) (.normal T df s) (Nat.beq id' id))
    (fun T df s _ => .ret T df s) (fun v s _ => .val v s) (fun c T df s _ => .panic c T df s) r id

noncomputable def contCond (ev : Rec) (ar : Option Nat) (a b : Code) (T : Tr AV) (df : List ADef) (f : FuncId) (s : St) (v : AV) : Out :=
  match v with
  | .bool x => match x with
    | true => ev (.code ar a T df f) s
    | false => ev (.code ar b T df f) s
  | .top => .no 101 | .num _ => .no 101 | .val _ => .no 101 | .ptr .. => .no 101 | .sl .. => .no 101 | .nes => .no 101 | .mp _ => .no 101 | .fn .. => .no 101 | .yld _ => .no 101 | .ifc .. => .no 101 | .agg _ => .no 101 | .tup _ => .no 101

noncomputable def endLoopA (ev : Rec) (ar : Option Nat) (l : Nat) (T : Tr AV) (df : List ADef) (f : FuncId) (r : Out) : Out :=
  match r with
  | .val _ s => match s.h.get l with
    | some (.loop st pend a b c d e g) =>
      if st = .busy then .no 103 else
      let s := s.upd l (some (.loop .exhausted pend a b c d e g))
      match pend with
      | none => .normal T df s
      | some c => ev (.code ar c T df f) s
    | _ => .no 104
  | .panic c _ _ s => .panic c T df s
  | .no w => .no w
  | _ => .no 105

/-- the loop's list of deferred calls: the function's own, in a round the outer loop's -/
noncomputable def loopStart (ar : Option Nat) (s : St) : Option (Nat × List ADef × St) :=
  match ar with
  | some l => match s.h.get l with
    | some (.loop _ _ _ _ _ _ _ d) => some (d, [], s)
    | _ => none
  | none => some (s.n, [⟨undefA, [], some s.n⟩], s.new (.deferred []))

noncomputable def evRange (E : Env) (ev : Rec) (ar : Option Nat) (g : Operand) (ps : Array Tmp) (assign body : Code) (T : Tr AV) (df : List ADef) (f : FuncId) (s : St) : Out :=
  match loopStart ar s with
  | none => .no 102
  | some (d, mark, s) =>
    match callV E default (evalO T g) [.yld s.n] (s.new (.loop .ready none f T ps.toList assign body d)) T with
    | .enter f' args s2 => endLoopA ev ar s.n T (mark ++ df) f (ev (.call f' args) s2)
    | _ => .no 106

abbrev KontC := Env → Rec → Option Nat → Tr AV → List ADef → FuncId → St → Out

noncomputable def evCode (E : Env) (ev : Rec) (ar : Option Nat) (c : Code) (T : Tr AV) (df : List ADef) (f : FuncId) (s : St) : Out :=
  @Code.casesOn (fun _ => KontC) c
    (fun _ _ _ T df _ s => .normal T df s)
    (fun _ ops d E ev ar T df _ s => evRegion E ev ar ops d T df s)
    (fun a b _ ev ar T df f s => contSeq ev ar b f (ev (.code ar a T df f) s))
    (fun c a b _ ev ar T df f s => contCond ev ar a b T df f s (evalO T c))
    (fun id b _ ev ar T df f s => contBlock id (ev (.code ar b T df f) s))
    (fun b _ ev ar T df f s => contSeq ev ar (.loop b) f (ev (.code ar b T df f) s))
    (fun g ps assign body E ev ar T df f s => evRange E ev ar g ps assign body T df f s)
    (fun id _ _ _ T df _ s => .exit id T df s)
    (fun b _ ev ar T df f s => ev (.code ar b T df f) s)
    (fun _ _ _ _ T df _ s => .normal T df s)
    (fun _ _ _ _ _ _ _ _ => .no 108)
    (fun _ _ _ T df _ s => .ret T df s)
    (fun _ _ _ _ _ _ _ _ => .no 109) E ev ar T df f s

noncomputable def contBody (ev : Rec) (fn : Func) (u : Option AMode) (r : Out) : Out :=
  @Out.rec (fun _ => Rec → Func → Option AMode → Out) (fun w _ _ _ => .no w) (fun T df s ev fn u => ev (.leave fn T df .returning) { s with u := u }) (fun _ _ _ _ _ _ _ => .no 316)
    (fun T df s ev fn u => ev (.leave fn T df .returning) { s with u := u }) (fun _ _ _ _ _ => .no 316) (fun c T df s ev fn u => ev (.leave fn T df (.panicking c)) { s with u := u }) r ev fn u

noncomputable def evEnter (ev : Rec) (f : FuncId) (args : List AV) (s : St) (fn : Func) : Out :=
  match fn.body with
  | none => .no 313
  | some c => contBody ev fn s.u (ev (.code none c (load .nil 0 args) [] f) { s with u := none })

noncomputable def evCallN (E : Env) (ev : Rec) (f : FuncId) (args : List AV) (s : St) : Out :=
  match E.fn f with
  | none => .no 312
  | some fn => evEnter ev f args s fn

noncomputable def evCallP (E : Env) (ev : Rec) (f : FuncId) (args : List AV) (s : St) (r : Option (AV × St)) : Out :=
  match r with
  | some v => .val v.1 v.2
  | none => evCallN E ev f args s

noncomputable def evCall (E : Env) (ev : Rec) (f : FuncId) (args : List AV) (s : St) : Out :=
  match E.plug f with
  | some p => evCallP E ev f args s (p args s)
  | none => evCallN E ev f args s

noncomputable def contBodyD (r : Out) : Out :=
  match r with
  | .normal _ [] s => .val undefA s
  | .ret _ [] s => .val undefA s
  | .panic c T [] s => .panic c T [] s
  | .no w => .no w
  | _ => .no 424

noncomputable def evCallD (E : Env) (ev : Rec) (f : FuncId) (args : List AV) (s : St) : Out :=
  match E.fn f with
  | none => .no 412
  | some fn => match fn.body with
    | none => .no 413
    | some c => match fn.results.toList with
      | [] => contBodyD (ev (.code none c (load .nil 0 args) [] f) s)
      | _ => .no 414

noncomputable def contLeave (ev : Rec) (fn : Func) (T : Tr AV) (ds : List ADef) (u0 : Option AMode) (r : Out) : Out :=
  match r with
  | .val _ s' => match s'.u with
    | some u' => ev (.leave fn T ds (settleA u')) { s' with u := u0 }
    | none => .no 525
  | .panic c _ _ s' => match s'.u with
    | some u' => ev (.leave fn T ds (raisedA u' c)) { s' with u := u0 }
    | none => .no 526
  | .no w => .no w
  | _ => .no 522

noncomputable def evLeave0 (E : Env) (fn : Func) (T : Tr AV) (u : AMode) (s : St) : Out :=
  match u with
  | .returning => match resultsT E fn T s with
    | some v => .val v s
    | none => .no 514
  | .panicking c => .panic c T [] s

noncomputable def evLeave (E : Env) (ev : Rec) (fn : Func) (T : Tr AV) (df : List ADef) (u : AMode) (s : St) : Out :=
  match df with
  | [] => evLeave0 E fn T u s
  | d :: ds => match d.coll with
    | some r => match s.h.get r with
      | some (.deferred l) => ev (.leave fn T (l ++ ds) u) (s.upd r none)
      | _ => .no 521
    | none => match callV E default d.fv d.args s T with
      | .enter f args s => contLeave ev fn T ds s.u (ev (.calld f args) { s with u := some u })
      | _ => .no 523

noncomputable def finRound (l : Nat) (u : Option AMode) (j : Option Code) (s2 : St) : Out :=
  match s2.h.get l with
  | some (.loop _ _ f1 T1 ps1 a1 b1 d1) =>
    .val (.bool j.isNone) { s2.upd l (some (.loop (if j.isNone then .ready else .done) j f1 T1 ps1 a1 b1 d1)) with u := u }
  | _ => .no 617

noncomputable def contRound (l : Nat) (u : Option AMode) (r : Out) : Out :=
  match r with
  | .normal _ _ s => finRound l u none s
  | .ret _ _ s => finRound l u (some .ret) s
  | .exit id _ _ s => finRound l u (some (.exit id)) s
  | .panic c T df s2 => match df with
    | [] => .panic c T [] { s2 with u := u }
    | _ => .no 616
  | .no w => .no w
  | _ => .no 618

noncomputable def contAssign (ev : Rec) (l : Nat) (body : Code) (f : FuncId) (u : Option AMode) (r : Out) : Out :=
  match r with
  | .normal T df s' => match s'.h.get l with
    | some (.loop .ready p f0 T0 ps0 a0 b0 d0) => contRound l u (ev (.code (some l) body T df f) (s'.upd l (some (.loop .busy p f0 T0 ps0 a0 b0 d0))))
    | _ => .no 619
  | .no w => .no w
  | _ => .no 620

noncomputable def evRound (E : Env) (ev : Rec) (l : Nat) (args : List AV) (s : St) : Out :=
  match s.h.get l with
  | some (.loop _ _ f T ps assign body _) =>
    match E.fn f with
    | none => .no 623
    | some _ => match Nat.beq args.length ps.length with
      | true => contAssign ev l body f s.u (ev (.code (some l) assign ((ps.zip args).foldl (fun T p => T.put bits p.1 (some p.2)) T) [] f) { s with u := none })
      | false => .no 621
  | _ => .no 622

noncomputable def evalStep (E : Env) (ev : Rec) (t : Task) (s : St) : Out :=
  @Task.rec (fun _ => Env → Rec → St → Out) (fun ar c T df f E ev s => evCode E ev ar c T df f s) (fun f args E ev s => evCall E ev f args s) (fun f args E ev s => evCallD E ev f args s)
    (fun fn T df u E ev s => evLeave E ev fn T df u s) (fun l args E ev s => evRound E ev l args s) t E ev s

noncomputable def ev (E : Env) (k : Nat) : Rec :=
  @Nat.rec (fun _ => Rec) (fun _ _ => .no 100) (fun _ ih t s => evalStep E ih t s) k

noncomputable def truth : Out → Bool
  | .val (.bool true) _ => true
  | _ => false
noncomputable def code : Out → Nat
  | .no w => w
  | .val (.bool true) _ => 0
  | .val .. => 1
  | .panic .. => 2
  | .normal .. => 3
  | .ret .. => 4
  | .exit .. => 5

/-! ### the check of a drawn region's plan -/
noncomputable def pairOK (ops : Array Oper) (i j : Nat) (oi oj : Oper) : Bool :=
  !(lightIn ops i oi || lightIn ops j oj) || match oj.dst with
    | none => true
    | some d => (!(looks ops oi d) || hasEdge oi j || (!(lightIn ops j oj) && hasEdge oj i)) && (Nat.beq i j || match oi.dst with | some t => !(Nat.beq t d) | none => true)

noncomputable def memN (i : Nat) (l : List Nat) : Bool := l.any (Nat.beq i)

noncomputable def chk (ops : Array Oper) (done : List Nat) : List (Nat × Option (List Nat)) → Bool
  | [] => (List.range ops.size).all fun i => memN i done
  | p :: rest => (match ops[p.1]? with
    | none => false
    | some o => !(memN p.1 done) && (o.after.toList.all fun e => !(Region.binds .any e) || memN e.on done) &&
      (match p.2 with
       | none => lightIn ops p.1 o
       | some rs => (rest.all fun q => match ops[q.1]? with
           | some oq => oq.after.toList.any fun e => Region.binds .any e && !(memN e.on done)
           | none => false) &&
         (done.all fun j => match ops[j]? with
           | some q => !(lightIn ops j q) || hasEdge o j || !(reader q) || (memN j rs && match q.dst with | some _ => true | none => false)
           | none => true)) && chk ops (p.1 :: done) rest)

noncomputable def planOK (ops : Array Oper) : Bool :=
  chk ops [] (planI ops) && (List.range ops.size).all fun i => (List.range ops.size).all fun j => match ops[i]? with
    | some oi => match ops[j]? with
      | some oj => pairOK ops i j oi oj
      | none => true
    | none => true
end Ev
end

section
namespace Ev
open Go

abbrev Rho := Nat → Option (Nat × Nat)

mutual
inductive VR (ρ : Rho) : AV → Value → Prop
  | top (v : Value) : VR ρ .top v
  | num (n : Int) : VR ρ (.num n) (.int .i64 n)
  | bool (x : Bool) : VR ρ (.bool x) (.bool x)
  | val (v : Value) : VR ρ (.val v) v
  | ptr {i o b e : Nat} (h : ρ i = some (b, e)) : VR ρ (.ptr i o) (.pointer (some ⟨b, o, none⟩))
  | sl {i o l c b e : Nat} {x : Bool} (h : ρ i = some (b, e)) : VR ρ (.sl i o l c x) (.slice (some ⟨b, o, none⟩) l (if x then c + e else c))
  | nes (a : Addr) (c : Nat) : VR ρ .nes (.slice (some a) 0 c)
  | mp {i b e : Nat} (h : ρ i = some (b, e)) : VR ρ (.mp i) (.map (some b))
  | fn {f : FuncId} {fs cs : List AV} {vs ws : List Value} (h1 : VRs ρ fs vs) (h2 : VRs ρ cs ws) : VR ρ (.fn f fs cs) (.func (.func f) ⟨vs⟩ ⟨ws⟩)
  | yld {l b e : Nat} (h : ρ l = some (b, e)) : VR ρ (.yld l) (.func (.yield b) #[] #[])
  | ifc {t : TypeId} {a : AV} {v : Value} (h : VR ρ a v) : VR ρ (.ifc t a) (.iface t v)
  | agg {cs : List AV} {vs : List Value} (h : VRs ρ cs vs) : VR ρ (.agg cs) (.agg ⟨vs⟩)
  | tup {cs : List AV} {vs : List Value} (h : VRs ρ cs vs) : VR ρ (.tup cs) (.tuple ⟨vs⟩)
inductive VRs (ρ : Rho) : List AV → List Value → Prop
  | nil : VRs ρ [] []
  | cons {a : AV} {v : Value} {as : List AV} {vs : List Value} (h : VR ρ a v) (hs : VRs ρ as vs) : VRs ρ (a :: as) (v :: vs)
end

def Le (ρ ρ' : Rho) : Prop := ∀ i x, ρ i = some x → ρ' i = some x
theorem Le.refl (ρ : Rho) : Le ρ ρ := fun _ _ h => h
theorem Le.trans {ρ ρ' ρ'' : Rho} (h : Le ρ ρ') (h' : Le ρ' ρ'') : Le ρ ρ'' := fun i x hx => h' i x (h i x hx)

mutual
theorem VR.mono {ρ ρ' : Rho} (le : Le ρ ρ') {a : AV} {v : Value} (h : VR ρ a v) : VR ρ' a v := by
  cases h with
  | top v => exact .top v
  | num n => exact .num n
  | bool x => exact .bool x
  | val v => exact .val v
  | ptr h => exact .ptr (le _ _ h)
  | sl h => exact .sl (le _ _ h)
  | nes a c => exact .nes a c
  | mp h => exact .mp (le _ _ h)
  | fn h1 h2 => exact .fn (VRs.mono le h1) (VRs.mono le h2)
  | yld h => exact .yld (le _ _ h)
  | ifc h => exact .ifc (VR.mono le h)
  | agg h => exact .agg (VRs.mono le h)
  | tup h => exact .tup (VRs.mono le h)
theorem VRs.mono {ρ ρ' : Rho} (le : Le ρ ρ') {a : List AV} {v : List Value} (h : VRs ρ a v) : VRs ρ' a v := by
  cases h with
  | nil => exact .nil
  | cons h hs => exact .cons (VR.mono le h) (VRs.mono le hs)
end

/-! ### lists -/
theorem VRs.length {ρ : Rho} {as : List AV} {vs : List Value} (h : VRs ρ as vs) : as.length = vs.length := by
  induction as generalizing vs with
  | nil => cases h; rfl
  | cons a as ih => cases h with | cons h hs => simp [ih hs]

theorem VRs.append {ρ : Rho} {as bs : List AV} {vs ws : List Value} (h : VRs ρ as vs) (h' : VRs ρ bs ws) : VRs ρ (as ++ bs) (vs ++ ws) := by
  induction as generalizing vs with
  | nil => cases h; exact h'
  | cons a as ih => cases h with | cons h hs => exact .cons h (ih hs)

@[simp] theorem lget_nil (n : Nat) : lget [] n = none := rfl
@[simp] theorem lget_zero (x : AV) (xs : List AV) : lget (x :: xs) 0 = some x := rfl
@[simp] theorem lget_succ (x : AV) (xs : List AV) (n : Nat) : lget (x :: xs) (n + 1) = lget xs n := rfl

theorem VRs.get {ρ : Rho} {as : List AV} {vs : List Value} (h : VRs ρ as vs) {n : Nat} {a : AV} (ha : lget as n = some a) : ∃ v, vs[n]? = some v ∧ VR ρ a v := by
  induction as generalizing vs n with
  | nil => simp at ha
  | cons x xs ih =>
    cases h with
    | cons h hs =>
      cases n with
      | zero => simp at ha; subst ha; exact ⟨_, by simp, h⟩
      | succ n => simp at ha; simpa using ih hs ha

theorem VRs.take {ρ : Rho} {as : List AV} {vs : List Value} (h : VRs ρ as vs) (n : Nat) : VRs ρ (ltake n as) (vs.take n) := by
  induction as generalizing vs n with
  | nil => cases h; cases n <;> exact .nil
  | cons x xs ih =>
    cases h with
    | cons h hs => cases n with
      | zero => exact .nil
      | succ n => exact .cons h (ih hs n)

theorem VRs.drop {ρ : Rho} {as : List AV} {vs : List Value} (h : VRs ρ as vs) (n : Nat) : VRs ρ (ldrop n as) (vs.drop n) := by
  induction as generalizing vs n with
  | nil => cases h; cases n <;> exact .nil
  | cons x xs ih =>
    cases h with
    | cons h hs => cases n with
      | zero => exact .cons h hs
      | succ n => simpa [ldrop] using ih hs n

theorem VRs.put {ρ : Rho} {as bs cs : List AV} {vs ws : List Value} (h : VRs ρ as vs) {o : Nat} (hb : VRs ρ bs ws) (hp : lput as o bs = some cs) :
    VRs ρ cs (vs.take o ++ ws ++ vs.drop (o + ws.length)) ∧ o + ws.length ≤ vs.length ∨ (bs = [] ∧ VRs ρ cs vs) := by
  induction as generalizing vs o bs ws cs with
  | nil =>
    cases h
    cases bs with
    | nil => right; cases o <;> simp [lput] at hp <;> subst hp <;> exact ⟨rfl, .nil⟩
    | cons b bs => cases o <;> simp [lput] at hp
  | cons x xs ih =>
    cases h with
    | @cons _ v _ vs hx hs =>
    cases o with
    | zero =>
      cases bs with
      | nil => right; simp [lput] at hp; subst hp; exact ⟨rfl, .cons hx hs⟩
      | cons b bs =>
        left
        simp only [lput] at hp
        cases hr : lput xs 0 bs with
        | none => simp [hr] at hp
        | some r =>
          simp [hr] at hp
          subst hp
          cases hb with
          | @cons _ w _ ws hw hws =>
          rcases ih hs hws hr with ⟨h1, h2⟩ | ⟨h1, h2⟩
          · refine ⟨?_, by simp at h2 ⊢; omega⟩
            simp at h1 ⊢
            exact .cons hw h1
          · subst h1
            cases hws
            simp
            exact .cons hw h2
    | succ o =>
      simp only [lput] at hp
      cases hr : lput xs o bs with
      | none => simp [hr] at hp
      | some r =>
        simp [hr] at hp
        subst hp
        rcases ih hs hb hr with ⟨h1, h2⟩ | ⟨h1, h2⟩
        · left
          refine ⟨?_, by simp at h2 ⊢; omega⟩
          simp at h1 ⊢
          have he : o + 1 + ws.length = (o + ws.length) + 1 := by omega
          rw [he]
          simp
          exact .cons hx h1
        · right
          exact ⟨h1, .cons hx h2⟩

/-! ### tries -/
section
variable {α : Type}
@[simp] theorem Tr.get_nil (n : Nat) : (Tr.nil : Tr α).get n = none := rfl
@[simp] theorem Tr.get_zero (v : Option α) (l r : Tr α) : (Tr.node v l r).get 0 = v := rfl
theorem Tr.get_succ (v : Option α) (l r : Tr α) (m : Nat) : (Tr.node v l r).get (m + 1) = if m % 2 = 0 then l.get (m / 2) else r.get (m / 2) := by
  show @Bool.rec (fun _ => Option α) (r.get (m / 2)) (l.get (m / 2)) (Nat.beq (m % 2) 0) = _
  cases h : Nat.beq (m % 2) 0 with
  | true => have := Nat.eq_of_beq_eq_true h; simp [this]
  | false => have := Nat.ne_of_beq_eq_false h; simp [this]

theorem Tr.one_zero (k : Nat) (x : Option α) : Tr.one (k + 1) 0 x = .node x .nil .nil := rfl
theorem Tr.one_succ (k m : Nat) (x : Option α) : Tr.one (k + 1) (m + 1) x = if m % 2 = 0 then .node none (Tr.one k (m / 2) x) .nil else .node none .nil (Tr.one k (m / 2) x) := by
  show @Bool.rec (fun _ => Tr α) (.node none .nil (Tr.one k (m / 2) x)) (.node none (Tr.one k (m / 2) x) .nil) (Nat.beq (m % 2) 0) = _
  cases h : Nat.beq (m % 2) 0 with
  | true => have := Nat.eq_of_beq_eq_true h; simp [this]
  | false => have := Nat.ne_of_beq_eq_false h; simp [this]

theorem Tr.get_one_ne (k : Nat) : ∀ (n m : Nat) (x : Option α), m ≠ n → (Tr.one k n x).get m = none := by
  induction k with
  | zero => intro n m x h; rfl
  | succ k ih =>
    intro n m x h
    cases n with
    | zero =>
      cases m with
      | zero => exact absurd rfl h
      | succ m => rw [Tr.one_zero, Tr.get_succ]; split <;> rfl
    | succ n =>
      rw [Tr.one_succ]
      cases m with
      | zero => split <;> rfl
      | succ m =>
        split <;> rw [Tr.get_succ] <;> split <;> first | rfl | (apply ih; omega)

theorem Tr.get_one_eq (k : Nat) : ∀ (n : Nat) (x : Option α), (Tr.one k n x).get n = x ∨ (Tr.one k n x).get n = none := by
  induction k with
  | zero => intro n x; right; rfl
  | succ k ih =>
    intro n x
    cases n with
    | zero => left; rfl
    | succ n =>
      rw [Tr.one_succ]
      split <;> rename_i h <;> rw [Tr.get_succ] <;> simp [h] <;> exact ih _ _

theorem Tr.put_nil (k n : Nat) (x : Option α) : Tr.put k .nil n x = Tr.one k n x := rfl
theorem Tr.put_zero (k : Nat) (v : Option α) (l r : Tr α) (x : Option α) : Tr.put k (.node v l r) 0 x = .node x l r := rfl
theorem Tr.put_succ (k : Nat) (v : Option α) (l r : Tr α) (m : Nat) (x : Option α) :
    Tr.put k (.node v l r) (m + 1) x = if m % 2 = 0 then .node v (Tr.put k l (m / 2) x) r else .node v l (Tr.put k r (m / 2) x) := by
  show @Bool.rec (fun _ => Tr α) (.node v l (Tr.put k r (m / 2) x)) (.node v (Tr.put k l (m / 2) x) r) (Nat.beq (m % 2) 0) = _
  cases h : Nat.beq (m % 2) 0 with
  | true => have := Nat.eq_of_beq_eq_true h; simp [this]
  | false => have := Nat.ne_of_beq_eq_false h; simp [this]

theorem Tr.get_put_ne (k : Nat) (t : Tr α) : ∀ (n m : Nat) (x : Option α), m ≠ n → (t.put k n x).get m = t.get m := by
  induction t with
  | nil => intro n m x h; rw [Tr.put_nil]; exact Tr.get_one_ne k n m x h
  | node v l r ihl ihr =>
    intro n m x h
    cases n with
    | zero =>
      rw [Tr.put_zero]
      cases m with
      | zero => exact absurd rfl h
      | succ m => rw [Tr.get_succ, Tr.get_succ]
    | succ n =>
      rw [Tr.put_succ]
      cases m with
      | zero => split <;> rfl
      | succ m =>
        split <;> rw [Tr.get_succ, Tr.get_succ] <;> split <;> first | rfl | (apply ihl; omega) | (apply ihr; omega)

theorem Tr.get_put_eq (k : Nat) (t : Tr α) : ∀ (n : Nat) (x : Option α), (t.put k n x).get n = x ∨ (t.put k n x).get n = none := by
  induction t with
  | nil => intro n x; rw [Tr.put_nil]; exact Tr.get_one_eq k n x
  | node v l r ihl ihr =>
    intro n x
    cases n with
    | zero => left; rfl
    | succ n =>
      rw [Tr.put_succ]
      split <;> rename_i h <;> rw [Tr.get_succ] <;> simp [h] <;> first | exact ihl _ _ | exact ihr _ _

/-- what is found behind a put: the old at another place, the new at its own -/
theorem Tr.put_some {k : Nat} {t : Tr α} {n m : Nat} {x : Option α} {y : α} (h : (t.put k n x).get m = some y) : (m = n ∧ x = some y) ∨ (m ≠ n ∧ t.get m = some y) := by
  by_cases hm : m = n
  · subst hm
    rcases Tr.get_put_eq k t m x with he | he
    · exact .inl ⟨rfl, he ▸ h⟩
    · rw [he] at h; cases h
  · exact .inr ⟨hm, by rw [Tr.get_put_ne k t n m x hm] at h; exact h⟩
end

/-! ### environments -/
def ER (ρ : Rho) (T : Tr AV) (tmps : Array Value) : Prop := ∀ t v, T.get t = some v → t < tmps.size ∧ VR ρ v (tmps.getD t undef)

theorem ER.mono {ρ ρ' : Rho} (le : Le ρ ρ') {T : Tr AV} {tmps : Array Value} (h : ER ρ T tmps) : ER ρ' T tmps :=
  fun t v ht => ⟨(h t v ht).1, (h t v ht).2.mono le⟩

theorem ER.put {ρ : Rho} {T : Tr AV} {tmps : Array Value} (h : ER ρ T tmps) {t : Nat} {v : AV} {x : Value} (ht : t < tmps.size) (hv : VR ρ v x) :
    ER ρ (T.put bits t (some v)) (tmps.setIfInBounds t x) := by
  intro m u hm
  rcases Tr.put_some hm with ⟨rfl, hu⟩ | ⟨hne, hu⟩
  · injection hu with hu
    subst hu
    refine ⟨by simpa using ht, ?_⟩
    simp [ht]
    exact hv
  · obtain ⟨h1, h2⟩ := h m u hu
    refine ⟨by simpa using h1, ?_⟩
    have : (tmps.setIfInBounds t x).getD m undef = tmps.getD m undef := by
      simp [Array.getElem?_setIfInBounds_ne (Ne.symm hne)]
    rw [this]; exact h2

theorem putT_none (T : Tr AV) (v : AV) : putT T none v = T := rfl
theorem putT_some (T : Tr AV) (t : Tmp) (v : AV) : putT T (some t) v = T.put bits t (some v) := rfl

def dstOk (n : Nat) (d : Option Tmp) : Prop := ∀ t, d = some t → t < n

theorem ER.putT {ρ : Rho} {T : Tr AV} {a : Act} (h : ER ρ T a.tmps) {d : Option Tmp} {v : AV} {x : Value} (hd : dstOk a.tmps.size d) (hv : VR ρ v x) :
    ER ρ (putT T d v) (a.put d x).tmps := by
  cases d with
  | none => exact h
  | some t => rw [putT_some]; exact h.put (hd t rfl) hv

theorem size_put (a : Act) (d : Option Tmp) (x : Value) : (a.put d x).tmps.size = a.tmps.size := by
  cases d <;> simp [Act.put]

/-! ### operands -/
def goodX (g : Nat) : Operand → Bool
  | .global i => Nat.blt i g
  | _ => true

theorem VR.mkVal (ρ : Rho) (v : Value) : VR ρ (mkVal v) v := by
  cases v <;> simp only [Ev.mkVal] <;> first | exact .val _ | exact .bool _ | skip
  rename_i k n
  cases k <;> simp only [mkInt] <;> first | exact .num _ | exact .val _

theorem VRs.mkVal (ρ : Rho) : ∀ vs : List Value, VRs ρ (vs.map Ev.mkVal) vs
  | [] => .nil
  | v :: vs => .cons (VR.mkVal ρ v) (VRs.mkVal ρ vs)

theorem VR.ofConst (ρ : Rho) (v : Value) : VR ρ (ofConst v) v := by
  cases v <;> simp only [Ev.ofConst] <;> first | exact .val _ | exact .bool _ | skip
  · rename_i k n
    cases k <;> simp only [mkInt] <;> first | exact .num _ | exact .val _
  · rename_i cs
    exact .agg (VRs.mkVal ρ cs.toList)

theorem VR.evalO {ρ : Rho} {T : Tr AV} {a : Act} {g : Nat} (h : ER ρ T a.tmps) (hg : ∀ i, i < g → ρ i = some (i, 0)) {x : Operand} (hx : goodX g x = true) :
    VR ρ (evalO T x) (a.eval x) := by
  cases x with
  | tmp t =>
    show VR ρ (getTop (T.get t)) (a.tmps.getD t undef)
    cases ht : T.get t with
    | none => exact .top _
    | some v => exact (h t v ht).2
  | const v => exact VR.ofConst ρ v
  | global i =>
    have : i < g := by simpa [goodX, Nat.blt_eq] using hx
    exact .ptr (hg i this)
  | func f => exact .val _
end Ev
end

section
namespace Ev
open Go

/-! ### what the model does with rows of cells -/
theorem addr_add (b o n : Nat) : (⟨b, o, none⟩ : Addr).add n = ⟨b, o + n, none⟩ := by
  unfold Addr.add; split <;> simp_all

theorem cell_of (w : World) (b o : Nat) {l : List Value} {el : TypeId} {fr : Nat × Nat} (h : w.heap[b]? = some (.cells ⟨l⟩ el fr)) : w.cell? ⟨b, o, none⟩ = l[o]? := by
  simp [World.cell?, h]

/-- nothing but the heap has turned -/
structure Same (w w' : World) : Prop where
  os : w'.os = w.os
  tape : w'.tape = w.tape
  output : w'.output = w.output

theorem Same.refl (w : World) : Same w w := ⟨rfl, rfl, rfl⟩
theorem Same.trans {w w' w'' : World} (h : Same w w') (h' : Same w' w'') : Same w w'' :=
  ⟨h'.os.trans h.os, h'.tape.trans h.tape, h'.output.trans h.output⟩

def fineFr (n : Nat) (fr : Nat × Nat) : Prop := ∀ off, off < n → ¬ (fr.1 ≤ off ∧ off < fr.2)

theorem run_storeCells {P : Program} (b o : Nat) (el : TypeId) (fr : Nat × Nat) : ∀ (us : List Value) (l : List Value) (i : Nat) (w : World),
    w.heap[b]? = some (.cells ⟨l⟩ el fr) → fineFr l.length fr → o + i + us.length ≤ l.length → (∀ u ∈ us, u.oneCell' = true) →
    ∃ w', (Go.storeCells ⟨b, o, none⟩ us i).run P w = .ok () w' ∧ w'.heap[b]? = some (.cells ⟨l.take (o + i) ++ us ++ l.drop (o + i + us.length)⟩ el fr) ∧
      w'.heap.size = w.heap.size ∧ (∀ c, c ≠ b → w'.heap[c]? = w.heap[c]?) ∧ Same w w'
  | [], l, i, w, h, _, _, _ => ⟨w, by simp [Go.storeCells], by simp [h], rfl, fun _ _ => rfl, Same.refl w⟩
  | u :: us, l, i, w, h, hf, hl, hc => by
    simp at hl
    have hlt : o + i < l.length := by omega
    have hcell : w.cell? ⟨b, o + i, none⟩ = some l[o + i] := by rw [cell_of w b _ h]; simp [hlt]
    have hfz : w.frozen? ⟨b, o + i, none⟩ = false := by
      simp only [World.frozen?, h]
      have := hf (o + i) hlt
      obtain ⟨lo, hi⟩ := fr
      simp at this ⊢
      exact this
    have hb : b < w.heap.size := by
      rcases Nat.lt_or_ge b w.heap.size with h' | h'
      · exact h'
      · simp [Array.getElem?_eq_none h'] at h
    have h1 : (w.setCell ⟨b, o + i, none⟩ u).heap[b]? = some (.cells ⟨l.set (o + i) u⟩ el fr) := by
      simp only [World.setCell, Array.getElem?_modify, if_true, h, Option.map_some]
      simp
    obtain ⟨w', hr, hb', hs, ho, hsame⟩ := run_storeCells (P := P) b o el fr us (l.set (o + i) u) (i + 1) (w.setCell ⟨b, o + i, none⟩ u) h1
      (by simpa using hf) (by simp; omega) (fun x hx => hc x (List.mem_cons_of_mem _ hx))
    refine ⟨w', ?_, ?_, ?_, ?_, ?_⟩
    · simp only [Go.storeCells, Sem.run_bind, addr_add]
      rw [run_store P w _ u .plain (hc u (List.mem_cons_self ..)), hcell]
      simp only [hfz, Bool.false_eq_true, if_false, Result.andThen_ok]
      exact hr
    · rw [hb']
      congr 3
      apply List.ext_getElem?
      intro k
      simp only [List.getElem?_append, List.length_take, List.length_append, List.length_cons, List.getElem?_take, List.getElem?_drop, List.length_set, List.getElem?_set]
      have e1 : min (o + (i + 1)) l.length = o + i + 1 := by omega
      have e2 : min (o + i) l.length = o + i := by omega
      rw [e1, e2]
      by_cases hk : k < o + i
      · have h1 : k < o + i + 1 := by omega
        have h2 : k < o + i + 1 + us.length := by omega
        have h3 : k < o + i + (us.length + 1) := by omega
        have h4 : k < o + (i + 1) := by omega
        have h5 : o + i ≠ k := by omega
        simp [hk, h1, h2, h3, h4, h5]
      · by_cases hk2 : k = o + i
        · subst hk2
          have h2 : o + i < o + i + 1 + us.length := by omega
          have h4 : o + i < o + (i + 1) := by omega
          simp [h2, h4, hlt]
        · have h1 : ¬ k < o + i + 1 := by omega
          obtain ⟨m, rfl⟩ : ∃ m, k = o + i + 1 + m := ⟨k - (o + i + 1), by omega⟩
          have e3 : o + i + 1 + m - (o + i) = m + 1 := by omega
          have e4 : o + i + 1 + m - (o + i + 1) = m := by omega
          by_cases hm : m < us.length
          · simp [h1, hk, e3, e4, hm]
            omega
          · have h7 : ¬ (o + i + 1 + m < o + i + 1 + us.length) := by omega
            have h8 : ¬ (o + i + 1 + m < o + i + (us.length + 1)) := by omega
            have e5 : o + (i + 1) + us.length + (o + i + 1 + m - (o + i + 1 + us.length)) = o + i + 1 + m := by omega
            have e6 : o + i + (us.length + 1) + (o + i + 1 + m - (o + i + (us.length + 1))) = o + i + 1 + m := by omega
            have h9 : o + i ≠ o + i + 1 + m := by omega
            simp [h1, hk, h7, h8, e5, e6, h9]
    · rw [hs]; simp
    · intro c hcb
      rw [ho c hcb, World.setCell]
      simp only [Array.getElem?_modify]
      simp [Ne.symm hcb]
    · exact Same.trans (w' := w.setCell ⟨b, o + i, none⟩ u) ⟨rfl, rfl, rfl⟩ hsame

theorem run_loadCells' {P : Program} (w : World) (b o n : Nat) {l : List Value} {el : TypeId} {fr : Nat × Nat} (h : w.heap[b]? = some (.cells ⟨l⟩ el fr)) (hn : ((l.drop o).take n).length = n) :
    (Go.loadCells ⟨b, o, none⟩ n).run P w = .ok ⟨(l.drop o).take n⟩ w := by
  have := run_loadCells_list (P := P) w ⟨b, o, none⟩ ((l.drop o).take n) (fun j v hv => by
    rw [addr_add, cell_of w b _ h]
    rw [List.getElem?_take] at hv
    split at hv
    · rw [List.getElem?_drop] at hv; exact hv
    · cases hv)
  rw [hn] at this
  exact this

/-! ### the types' table -/
def isAggT (P : Program) (t : TypeId) : Bool :=
  match P.underlying t with
  | some d => match d with
    | .struct _ | .array _ _ => true
    | _ => false
  | none => false

def known (P : Program) (t : TypeId) : Bool := (P.info? t).isSome && (P.underlying t).isSome

def KOK (P : Program) (d : TypeDesc) : TK → Prop
  | .struct fs => ∃ fields, d = .struct fields ∧ fs = fields.toList.map (fun f => (f.offset, P.cellsOf f.type, isAggT P f.type)) ∧ ∀ f ∈ fields, known P f.type = true
  | .array n es ea => ∃ e, d = .array n e ∧ es = P.cellsOf e ∧ ea = isAggT P e ∧ known P e = true
  | .slice e es by_ => d = .slice e ∧ es = P.cellsOf e ∧ by_ = P.bytesOf e ∧ known P e = true
  | .iface => ∃ ms, d = .interface ms
  | .mapT k e => d = .map k e
  | .str => d = .string
  | .sc k => d = .int k
  | .ptr es => ∃ e, d = .pointer e ∧ es = P.cellsOf e ∧ known P e = true
  | .func => ∃ a b c, d = .func a b c
  | .other => match d with
    | .struct _ | .array _ _ | .slice _ | .interface _ | .map _ _ | .string | .int _ | .pointer _ | .func .. => False
    | _ => True

structure TIOK (P : Program) (t : TypeId) (ti : TI) : Prop where
  ex : ∃ d info z, P.underlying t = some d ∧ P.info? t = some info ∧ info.size = ti.size ∧ info.zero = some z ∧ ti.zero = z.cells.toList.map mkVal ∧ z.cells.size = ti.size ∧
    ((∃ c, z = .agg c) ↔ isAggT P t = true) ∧ KOK P d ti.k

structure EOK (E : Env) : Prop where
  ty : ∀ t ti, E.ty t = some ti → TIOK E.P t ti
  fn : ∀ f fn, E.fn f = some fn → E.P.funcs[f]? = some fn
  name : ∀ f fn, E.fn f = some fn → (fn.name == "runtime.NumGoroutine") = false

theorem run_sizeOf' {P : Program} {t : TypeId} (h : known P t = true) (w : World) : (Go.sizeOf t).run P w = .ok (P.cellsOf t) w := by
  unfold known at h
  simp only [Bool.and_eq_true] at h
  obtain ⟨i, hi⟩ := Option.isSome_iff_exists.1 h.1
  simp [Go.sizeOf, typeInfo, hi, Program.cellsOf]

theorem run_isAgg' {P : Program} {t : TypeId} (h : known P t = true) (w : World) : (isAgg t).run P w = .ok (isAggT P t) w := by
  unfold known at h
  simp only [Bool.and_eq_true] at h
  obtain ⟨d, hd⟩ := Option.isSome_iff_exists.1 h.2
  unfold isAgg isAggT
  rw [Sem.run_bind]
  simp only [underlying, Sem.run_bind, run_program, Result.andThen_ok, hd, Sem.run_pure]
  cases d <;> rfl

theorem TIOK.known {P : Program} {t : TypeId} {ti : TI} (h : TIOK P t ti) : known P t = true := by
  obtain ⟨d, info, z, h1, h2, _⟩ := h.ex
  simp [Ev.known, h1, h2]

theorem TIOK.size {P : Program} {t : TypeId} {ti : TI} (h : TIOK P t ti) : P.cellsOf t = ti.size := by
  obtain ⟨d, info, z, h1, h2, h3, _⟩ := h.ex
  simp [Program.cellsOf, h2, h3]

theorem TIOK.run_underlying {P : Program} {t : TypeId} {ti : TI} (h : TIOK P t ti) : ∃ d, KOK P d ti.k ∧ ∀ w, (underlying t).run P w = .ok d w := by
  obtain ⟨d, info, z, h1, h2, h3, h4, h5, h6, h7, h8⟩ := h.ex
  exact ⟨d, h8, fun w => by simp [underlying, h1]⟩

theorem TIOK.agg {P : Program} {t : TypeId} {ti : TI} (h : TIOK P t ti) : isAggT P t = (match ti.k with | .struct _ | .array .. => true | _ => false) := by
  obtain ⟨d, info, z, h1, h2, h3, h4, h5, h6, h7, h8⟩ := h.ex
  unfold isAggT
  rw [h1]
  cases hk : ti.k <;> rw [hk] at h8 <;> simp only [KOK] at h8
  · subst h8; rfl
  · obtain ⟨_, rfl, _⟩ := h8; rfl
  · obtain ⟨_, _, _, rfl⟩ := h8; rfl
  · obtain ⟨_, rfl, _⟩ := h8; rfl
  · obtain ⟨_, rfl, _⟩ := h8; rfl
  · obtain ⟨rfl, _⟩ := h8; rfl
  · obtain ⟨_, rfl⟩ := h8; rfl
  · subst h8; rfl
  · subst h8; rfl
  · cases d <;> first | rfl | exact h8.elim

/-! ### the heap's relation -/
def DR (ρ : Rho) (d : ADef) (c : Deferred) : Prop :=
  match d.coll with
  | some r => ∃ b e, ρ r = some (b, e) ∧ c.target = .collected b ∧ c.args = #[]
  | none => ∃ fn first cap vs, VR ρ d.fv (.func fn first cap) ∧ VRs ρ d.args vs ∧ c = { target := .fn fn cap, args := first ++ ⟨vs⟩ }

def DRs (ρ : Rho) : List ADef → List Deferred → Prop
  | [], [] => True
  | d :: ds, c :: cs => DR ρ d c ∧ DRs ρ ds cs
  | _, _ => False

def MR (ρ : Rho) : List (Value × AV × Nat) → List MapEntry → Prop
  | [], [] => True
  | e :: es, m :: ms => (m.key = e.1 ∧ VR ρ e.2.1 m.val ∧ m.born = e.2.2) ∧ MR ρ es ms
  | _, _ => False

theorem DR.mono {ρ ρ' : Rho} (le : Le ρ ρ') {d : ADef} {c : Deferred} (h : DR ρ d c) : DR ρ' d c := by
  unfold DR at *
  split at h
  · obtain ⟨b, e, hr, h⟩ := h; exact ⟨b, e, le _ _ hr, h⟩
  · obtain ⟨fn, first, cap, vs, h1, h2, h3⟩ := h; exact ⟨fn, first, cap, vs, h1.mono le, h2.mono le, h3⟩

theorem DRs.mono {ρ ρ' : Rho} (le : Le ρ ρ') : ∀ {ds : List ADef} {cs : List Deferred}, DRs ρ ds cs → DRs ρ' ds cs
  | [], [], _ => trivial
  | _ :: _, _ :: _, h => ⟨h.1.mono le, DRs.mono le h.2⟩
  | [], _ :: _, h => h.elim
  | _ :: _, [], h => h.elim

theorem MR.mono {ρ ρ' : Rho} (le : Le ρ ρ') : ∀ {ds : List (Value × AV × Nat)} {cs : List MapEntry}, MR ρ ds cs → MR ρ' ds cs
  | [], [], _ => trivial
  | _ :: _, _ :: _, h => ⟨⟨h.1.1, h.1.2.1.mono le, h.1.2.2⟩, MR.mono le h.2⟩
  | [], _ :: _, h => h.elim
  | _ :: _, [], h => h.elim

/-- what every piece of code must meet: 'n' slots, 'g' variables -/
abbrev Good := Nat → Code → Prop

structure LoopR (G : Good) (ρ : Rho) (state : LoopState) (pend : Option Code) (fn : FuncId) (T : Tr AV) (params : List Tmp) (assign body : Code) (d : Nat) (lp : Loop) : Prop where
  hstate : lp.state = state
  hpend : lp.pending = pend
  hfn : lp.fn = fn
  tmps : ER ρ T lp.tmps
  hparams : lp.params.toList = params
  hassign : lp.assign = assign
  hbody : lp.body = body
  defers : ∃ db e, ρ d = some (db, e) ∧ lp.defers = db
  goodA : G lp.tmps.size assign
  goodB : G lp.tmps.size body
  inb : ∀ t ∈ params, t < lp.tmps.size
  goodP : ∀ c, pend = some c → c = .ret ∨ ∃ id, c = .exit id

inductive OR (E : Env) (G : Good) (ρ : Rho) (e : Nat) : AObj → Obj → Prop
  | cells {cs : List AV} {el : TypeId} {x : Bool} (vs rest : List Value) (fr : Nat × Nat) (h : VRs ρ cs vs) (hf : fineFr (vs.length + rest.length) fr)
      (hx : x = false → rest = [] ∧ e = 0 ∧ fr = (0, 0)) (he : ∀ ti, E.ty el = some ti → rest.length = e * ti.size) : OR E G ρ e (.cells cs el x) (.cells ⟨vs ++ rest⟩ el fr)
  | map {es : List (Value × AV × Nat)} {c : Nat} (l : List MapEntry) (h : MR ρ es l) : OR E G ρ e (.map es c) (.map ⟨l⟩ c)
  | siter (s : ByteArray) (p : Nat) : OR E G ρ e (.siter s p) (.stringIter s p)
  | miter0 (since : Nat) (seen : List Nat) (st : Nat) : OR E G ρ e (.miter none since seen st) (.mapIter none since ⟨seen⟩ st)
  | miter {i b e' : Nat} (since : Nat) (seen : List Nat) (st : Nat) (h : ρ i = some (b, e')) : OR E G ρ e (.miter (some i) since seen st) (.mapIter (some b) since ⟨seen⟩ st)
  | loop {state : LoopState} {pend : Option Code} {fn : FuncId} {T : Tr AV} {params : List Tmp} {assign body : Code} {d : Nat} (lp : Loop)
      (h : LoopR G ρ state pend fn T params assign body d lp) : OR E G ρ e (.loop state pend fn T params assign body d) (.loop lp)
  | deferred {ds : List ADef} (l : List Deferred) (h : DRs ρ ds l) : OR E G ρ e (.deferred ds) (.deferred (some l))
  | ro {k : Nat} {cs : List AV} (vs : List Value) (el : TypeId) (fr : Nat × Nat) (h : VRs ρ cs vs) (hg : E.gh k = .cells ⟨vs⟩ el fr) : OR E G ρ e (.ro k cs) (.cells ⟨vs⟩ el fr)

theorem OR.mono {E : Env} {G : Good} {ρ ρ' : Rho} (le : Le ρ ρ') {e : Nat} {o : AObj} {b : Obj} (h : OR E G ρ e o b) : OR E G ρ' e o b := by
  cases h with
  | cells vs rest fr h hf hx he => exact .cells vs rest fr (h.mono le) hf hx he
  | map l h => exact .map l (h.mono le)
  | siter s p => exact .siter s p
  | miter0 a b c => exact .miter0 a b c
  | miter a b c h => exact .miter a b c (le _ _ h)
  | loop lp h => exact .loop lp { h with tmps := h.tmps.mono le, defers := let ⟨db, e, h1, h2⟩ := h.defers; ⟨db, e, le _ _ h1, h2⟩ }
  | deferred l h => exact .deferred l (h.mono le)
  | ro vs el fr h hg => exact .ro vs el fr (h.mono le) hg

def live (st : St) (i : Nat) : Prop := ∃ o, st.h.get i = some o

structure Rel (E : Env) (G : Good) (ρ : Rho) (st : St) (h : Array Obj) : Prop where
  obj : ∀ i o b e, st.h.get i = some o → ρ i = some (b, e) → ∃ ob, h[b]? = some ob ∧ OR E G ρ e o ob
  inj : ∀ i j b e e', live st i → live st j → ρ i = some (b, e) → ρ j = some (b, e') → i = j
  fresh : ∀ i, st.n ≤ i → ρ i = none ∧ st.h.get i = none
  below : ∀ i b e, ρ i = some (b, e) → b < h.size
  glob : ∀ g, g < E.P.globals.size → ρ g = some (g, 0)

structure Ext (ρ : Rho) (st : St) (h : Array Obj) (ρ' : Rho) (st' : St) (h' : Array Obj) : Prop where
  mono : Le ρ ρ'
  old : ∀ i, i < st.n → ρ i = none → ρ' i = none
  virt : ∀ i, i < st.n → ρ i = none → st'.h.get i = st.h.get i
  n : st.n ≤ st'.n
  size : h.size ≤ h'.size
  keep : ∀ b, b < h.size → (∀ i e, live st i → ρ i ≠ some (b, e)) → h'[b]? = h[b]?
  dom : ∀ i b e, live st' i → ρ' i = some (b, e) → h.size ≤ b ∨ ∃ j e', live st j ∧ ρ j = some (b, e')

theorem Ext.refl (ρ : Rho) (st : St) (h : Array Obj) : Ext ρ st h ρ st h :=
  ⟨Le.refl ρ, fun _ _ h => h, fun _ _ _ => rfl, Nat.le_refl _, Nat.le_refl _, fun _ _ _ => rfl, fun i _ e hl hr => .inr ⟨i, e, hl, hr⟩⟩

theorem Ext.trans {ρ ρ' ρ'' : Rho} {st st' st'' : St} {h h' h'' : Array Obj} (a : Ext ρ st h ρ' st' h') (b : Ext ρ' st' h' ρ'' st'' h'') : Ext ρ st h ρ'' st'' h'' where
  mono := a.mono.trans b.mono
  old i hi hr := b.old i (Nat.lt_of_lt_of_le hi a.n) (a.old i hi hr)
  virt i hi hr := (b.virt i (Nat.lt_of_lt_of_le hi a.n) (a.old i hi hr)).trans (a.virt i hi hr)
  n := Nat.le_trans a.n b.n
  size := Nat.le_trans a.size b.size
  keep c hc hn := by
    rw [b.keep c (Nat.lt_of_lt_of_le hc a.size) ?_, a.keep c hc hn]
    intro i e hl hr
    rcases a.dom i c e hl hr with h1 | ⟨j, e', h1, h2⟩
    · omega
    · exact hn j e' h1 h2
  dom i c e hl hr := by
    rcases b.dom i c e hl hr with h1 | ⟨j, e', h1, h2⟩
    · exact .inl (Nat.le_trans a.size h1)
    · exact a.dom j c e' h1 h2

/-- the fields that a change of u leaves -/
theorem Rel.withU {E : Env} {G : Good} {ρ : Rho} {st : St} {h : Array Obj} (r : Rel E G ρ st h) (u : Option AMode) : Rel E G ρ { st with u := u } h :=
  ⟨r.obj, r.inj, r.fresh, r.below, r.glob⟩

theorem Ext.withU {ρ ρ' : Rho} {st st' : St} {h h' : Array Obj} (a : Ext ρ st h ρ' st' h') (u u' : Option AMode) : Ext ρ { st with u := u } h ρ' { st' with u := u' } h' :=
  ⟨a.mono, a.old, a.virt, a.n, a.size, a.keep, a.dom⟩

/-! ### the three steps: a new block, a block's new content, a block that is given up -/
theorem lt_of_some {h : Array Obj} {b : Nat} {o : Obj} (hb : h[b]? = some o) : b < h.size := by
  rcases Nat.lt_or_ge b h.size with h' | h'
  · exact h'
  · simp [Array.getElem?_eq_none h'] at hb

def addρ (ρ : Rho) (i b e : Nat) : Rho := fun j => if j = i then some (b, e) else ρ j

theorem addρ_le {ρ : Rho} {i b e : Nat} (h : ρ i = none) : Le ρ (addρ ρ i b e) := by
  intro j x hx
  unfold addρ
  split
  · rename_i hj; subst hj; rw [h] at hx; cases hx
  · exact hx

theorem addρ_self (ρ : Rho) (i b e : Nat) : addρ ρ i b e i = some (b, e) := by simp [addρ]

theorem new_get {st : St} {o : AObj} {i : Nat} {x : AObj} (h : (st.new o).h.get i = some x) : (i = st.n ∧ x = o) ∨ (i ≠ st.n ∧ st.h.get i = some x) := by
  rcases Tr.put_some (h : (st.h.put bits st.n (some o)).get i = some x) with ⟨h1, h2⟩ | h
  · injection h2 with h2; exact .inl ⟨h1, h2.symm⟩
  · exact .inr h

/-- a block is made: number st.n, at the heap's end (or at a block that the abstract heap has given up) -/
theorem Rel.new {E : Env} {G : Good} {ρ : Rho} {st : St} {h h' : Array Obj} (r : Rel E G ρ st h) {o : AObj} {b e : Nat} {ob : Obj} (hs : h.size ≤ h'.size)
    (hk : ∀ c, c ≠ b → c < h.size → h'[c]? = h[c]?) (hb : h'[b]? = some ob) (ho : OR E G ρ e o ob) (hfree : ∀ i e, live st i → ρ i ≠ some (b, e)) :
    Rel E G (addρ ρ st.n b e) (st.new o) h' ∧ (h.size ≤ b → Ext ρ st h (addρ ρ st.n b e) (st.new o) h') := by
  have hn : ρ st.n = none := (r.fresh st.n (Nat.le_refl _)).1
  have le := addρ_le (b := b) (e := e) hn
  have hlive : ∀ i, live (st.new o) i → i = st.n ∨ (i ≠ st.n ∧ live st i) := by
    rintro i ⟨x, hx⟩
    rcases new_get hx with ⟨h1, _⟩ | ⟨h1, h2⟩
    · exact .inl h1
    · exact .inr ⟨h1, x, h2⟩
  have hlt := lt_of_some hb
  constructor
  · refine ⟨?_, ?_, ?_, ?_, ?_⟩
    · intro i x c e' hx hr
      rcases new_get hx with ⟨rfl, rfl⟩ | ⟨hne, hx⟩
      · rw [addρ_self] at hr
        injection hr with hr
        injection hr with h1 h2
        subst h1; subst h2
        exact ⟨ob, hb, ho.mono le⟩
      · have hr' : ρ i = some (c, e') := by simpa [addρ, hne] using hr
        obtain ⟨oc, h1, h2⟩ := r.obj i x c e' hx hr'
        have hcb : c ≠ b := fun hcb => hfree i e' ⟨x, hx⟩ (hcb ▸ hr')
        exact ⟨oc, by rw [hk c hcb (lt_of_some h1)]; exact h1, h2.mono le⟩
    · intro i j c e1 e2 hi hj h1 h2
      rcases hlive i hi with rfl | ⟨hne, hi⟩ <;> rcases hlive j hj with hj' | ⟨hne', hj⟩
      · exact hj'.symm
      · rw [addρ_self] at h1
        injection h1 with h1
        injection h1 with h1 _
        subst h1
        exact absurd (by simpa [addρ, hne'] using h2) (hfree j e2 hj)
      · subst hj'
        rw [addρ_self] at h2
        injection h2 with h2
        injection h2 with h2 _
        subst h2
        exact absurd (by simpa [addρ, hne] using h1) (hfree i e1 hi)
      · exact r.inj i j c e1 e2 hi hj (by simpa [addρ, hne] using h1) (by simpa [addρ, hne'] using h2)
    · intro i hi
      have hi' : st.n + 1 ≤ i := hi
      have hne : i ≠ st.n := by omega
      refine ⟨by simpa [addρ, hne] using (r.fresh i (by omega)).1, ?_⟩
      show (st.h.put bits st.n (some o)).get i = none
      rw [Tr.get_put_ne _ _ _ _ _ hne]
      exact (r.fresh i (by omega)).2
    · intro i c e' hr
      by_cases hi : i = st.n
      · subst hi; rw [addρ_self] at hr; injection hr with hr; injection hr with h1 _; subst h1; exact hlt
      · exact Nat.lt_of_lt_of_le (r.below i c e' (by simpa [addρ, hi] using hr)) hs
    · exact fun g hg => le _ _ (r.glob g hg)
  · intro hge
    refine ⟨le, ?_, ?_, ?_, hs, ?_, ?_⟩
    · intro i hi hr; have : i ≠ st.n := by omega
      simpa [addρ, this] using hr
    · intro i hi _
      show (st.h.put bits st.n (some o)).get i = _
      exact Tr.get_put_ne _ _ _ _ _ (by omega)
    · show st.n ≤ st.n + 1; omega
    · intro c hc _; exact hk c (by omega) hc
    · intro i c e' hl hr
      rcases hlive i hl with rfl | ⟨hne, hi⟩
      · rw [addρ_self] at hr; injection hr with hr; injection hr with h1 _; subst h1; exact .inl hge
      · exact .inr ⟨i, e', hi, by simpa [addρ, hne] using hr⟩

/-- a block's content is turned -/
theorem Rel.upd {E : Env} {G : Good} {ρ : Rho} {st : St} {h h' : Array Obj} (r : Rel E G ρ st h) {i : Nat} {o o' : AObj} {b e : Nat} {ob : Obj} (hi : st.h.get i = some o) (hr : ρ i = some (b, e))
    (hs : h'.size = h.size) (hk : ∀ c, c ≠ b → h'[c]? = h[c]?) (hb : h'[b]? = some ob) (ho : OR E G ρ e o' ob) :
    Rel E G ρ (st.upd i (some o')) h' ∧ Ext ρ st h ρ (st.upd i (some o')) h' := by
  have hget : ∀ j x, (st.upd i (some o')).h.get j = some x → (j = i ∧ x = o') ∨ (j ≠ i ∧ st.h.get j = some x) := by
    intro j x hx
    rcases Tr.put_some (hx : (st.h.put bits i (some o')).get j = some x) with ⟨h1, h2⟩ | h
    · injection h2 with h2; exact .inl ⟨h1, h2.symm⟩
    · exact .inr h
  have hlive : ∀ j, live (st.upd i (some o')) j → live st j := by
    rintro j ⟨x, hx⟩
    rcases hget j x hx with ⟨rfl, _⟩ | ⟨_, h⟩
    · exact ⟨o, hi⟩
    · exact ⟨x, h⟩
  constructor
  · refine ⟨?_, ?_, ?_, ?_, r.glob⟩
    · intro j x c e' hx hrj
      rcases hget j x hx with ⟨rfl, rfl⟩ | ⟨hne, hx⟩
      · rw [hr] at hrj; injection hrj with hrj; injection hrj with h1 h2; subst h1; subst h2; exact ⟨ob, hb, ho⟩
      · obtain ⟨oc, h1, h2⟩ := r.obj j x c e' hx hrj
        have hcb : c ≠ b := fun hcb => hne (r.inj j i b e' e ⟨x, hx⟩ ⟨o, hi⟩ (hcb ▸ hrj) hr)
        exact ⟨oc, by rw [hk c hcb]; exact h1, h2⟩
    · exact fun j k c e1 e2 hj hk h1 h2 => r.inj j k c e1 e2 (hlive j hj) (hlive k hk) h1 h2
    · intro j hj
      have hj' : st.n ≤ j := hj
      have hne : j ≠ i := fun he => by subst he; have := (r.fresh j hj').2; rw [hi] at this; cases this
      refine ⟨(r.fresh j hj').1, ?_⟩
      show (st.h.put bits i (some o')).get j = none
      rw [Tr.get_put_ne _ _ _ _ _ hne]
      exact (r.fresh j hj').2
    · intro j c e' hrj; rw [hs]; exact r.below j c e' hrj
  · refine ⟨Le.refl ρ, fun _ _ h => h, ?_, Nat.le_refl _, by rw [hs]; exact Nat.le_refl _, ?_, fun j c e' hl hrj => .inr ⟨j, e', hlive j hl, hrj⟩⟩
    · intro j _ hn
      show (st.h.put bits i (some o')).get j = _
      exact Tr.get_put_ne _ _ _ _ _ (fun he => by subst he; rw [hr] at hn; cases hn)
    · intro c hc hn
      exact hk c (fun hcb => hn i e ⟨o, hi⟩ (hcb ▸ hr))

/-- a block is given up -/
theorem Rel.kill {E : Env} {G : Good} {ρ : Rho} {st : St} {h : Array Obj} (r : Rel E G ρ st h) {i b e : Nat} (hr : ρ i = some (b, e)) :
    Rel E G ρ (st.upd i none) h ∧ Ext ρ st h ρ (st.upd i none) h := by
  have hget : ∀ j x, (st.upd i none).h.get j = some x → j ≠ i ∧ st.h.get j = some x := by
    intro j x hx
    rcases Tr.put_some (hx : (st.h.put bits i none).get j = some x) with ⟨_, h2⟩ | h
    · cases h2
    · exact h
  have hlive : ∀ j, live (st.upd i none) j → live st j := fun j ⟨x, hx⟩ => ⟨x, (hget j x hx).2⟩
  constructor
  · refine ⟨fun j x c e' hx hrj => r.obj j x c e' (hget j x hx).2 hrj, fun j k c e1 e2 hj hk h1 h2 => r.inj j k c e1 e2 (hlive j hj) (hlive k hk) h1 h2, ?_, r.below, r.glob⟩
    intro j hj
    refine ⟨(r.fresh j hj).1, ?_⟩
    have : (st.upd i none).h.get j = none := by
      cases hx : (st.upd i none).h.get j with
      | none => rfl
      | some x => have := (hget j x hx).2; rw [(r.fresh j hj).2] at this; cases this
    exact this
  · refine ⟨Le.refl ρ, fun _ _ h => h, ?_, Nat.le_refl _, Nat.le_refl _, fun _ _ _ => rfl, fun j c e' hl hrj => .inr ⟨j, e', hlive j hl, hrj⟩⟩
    intro j _ hn
    show (st.h.put bits i none).get j = _
    exact Tr.get_put_ne _ _ _ _ _ (fun he => by subst he; rw [hr] at hn; cases hn)
end Ev
end
