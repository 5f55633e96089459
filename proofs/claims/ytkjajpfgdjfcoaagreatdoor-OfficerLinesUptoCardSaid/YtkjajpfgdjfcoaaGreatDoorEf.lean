/- The evaluator: drawn regions, their game. -/
import Derived.Test.YtkjajpfgdjfcoaaGreatDoorEd
import Derived.Test.YtkjajpfgdjfcoaaGreatDoorEe
import Derived.Orders
set_option linter.unusedVariables false
set_option linter.unusedSimpArgs false
section
namespace Ev
open Go

section
variable {E : Env} {G : Good} {ρ : Rho} {st : St} {w : World} {T T' : Tr AV} {a : Act} {o : Oper}

/-! ### an environment without some slots -/
noncomputable def drop (T : Tr AV) : List Tmp → Tr AV
  | [] => T
  | t :: ts => (drop T ts).put bits t none

theorem drop_get (T : Tr AV) : ∀ (X : List Tmp) (t : Tmp) (u : AV), (drop T X).get t = some u → t ∉ X ∧ T.get t = some u
  | [], t, u, h => ⟨by simp, h⟩
  | x :: X, t, u, h => by
    rcases Tr.put_some (h : ((drop T X).put bits x none).get t = some u) with ⟨_, h2⟩ | ⟨hne, h2⟩
    · cases h2
    · obtain ⟨h3, h4⟩ := drop_get T X t u h2
      exact ⟨by simp [hne, h3], h4⟩

theorem drop_out (T : Tr AV) : ∀ (X : List Tmp) (t : Tmp), t ∉ X → (drop T X).get t = T.get t
  | [], _, _ => rfl
  | x :: X, t, h => by
    simp only [List.mem_cons, not_or] at h
    rw [← drop_out T X t h.2]
    exact Tr.get_put_ne _ _ _ _ _ h.1

theorem evalO_same {x : Operand} (h : ∀ t, x = .tmp t → T.get t = T'.get t) : evalO T x = evalO T' x := by
  cases x <;> first | rfl | skip
  rename_i t
  show getTop (T.get t) = getTop (T'.get t)
  rw [h t rfl]

/-- the same at all slots that an operation looks at -/
def Alike (ops : Array Oper) (o : Oper) (T T' : Tr AV) : Prop := ∀ d, looks ops o d = true → T.get d = T'.get d

theorem Alike.same {ops : Array Oper} (h : Alike ops o T T') : SameOn T T' o := by
  intro x hx
  refine evalO_same fun t ht => h t ?_
  subst ht
  unfold looks
  simp only [Bool.or_eq_true]
  left
  rw [List.any_eq_true]
  exact ⟨.tmp t, by simpa using hx, by simp⟩

theorem Alike.symm {ops : Array Oper} (h : Alike ops o T T') : Alike ops o T' T := fun d hd => (h d hd).symm

theorem opAt_eq : ∀ (l : List Oper) (j : Nat), opAt l j = l[j]?
  | [], j => rfl
  | o :: os, j => by cases j with
    | zero => rfl
    | succ j => simp [opAt, opAt_eq os j]

theorem wantedA_eq {ops : List Oper} : wantedA ops o T = match o.guard with | none => some true | some g => wantedG ops T g := by
  unfold wantedA; cases o.guard <;> rfl

theorem Alike.wanted {ops : Array Oper} (h : Alike ops o T T') : wantedA ops.toList o T = wantedA ops.toList o T' := by
  rw [wantedA_eq, wantedA_eq]
  cases hg : o.guard with
  | none => rfl
  | some g =>
    obtain ⟨j, want⟩ := g
    simp only [wantedG, opAt_eq]
    have hj : ops.toList[j]? = ops[j]? := by simp
    rw [hj]
    cases ho : ops[j]? with
    | none => rfl
    | some q =>
      dsimp only
      cases hd : q.dst with
      | none => rfl
      | some d =>
        have : T.get d = T'.get d := h d (by
          unfold looks
          simp only [Bool.or_eq_true]
          right
          simp [hg, ho, hd])
        dsimp only
        rw [this]

/-! ### light operations -/
/-- a result at another state -/
def Res.at (st : St) : Res → Res
  | .val v _ => .val v st
  | .skip _ => .skip st
  | .enter f a _ => .enter f a st
  | .panic v _ => .panic v st
  | r => r

theorem aPure_at (st1 : St) : aPure E o T st1 = (aPure E o T st).at st1 := by
  unfold aPure
  split
  · split <;> rfl
  · rfl

noncomputable def makeSliceOf (E : Env) (t : TypeId) (l c : AV) : Option (List AV × TypeId × Option (Nat × Nat)) :=
  match E.ty t, aIntOf l, aIntOf c with
  | some ti, some l, some c => match ti.k with
    | .slice elem _ bytes =>
      if 0 ≤ l ∧ l ≤ c ∧ c * bytes ≤ 2 ^ 40 ∧ c < 2 ^ 40 then
        match E.ty elem with
        | some te => some (repZero te.zero c.toNat, elem, some (l.toNat, c.toNat))
        | none => none
      else none
    | _ => none
  | _, _, _ => none

/-- what a light operation allocates -/
noncomputable def allocOf (E : Env) (o : Oper) (T : Tr AV) : Option (List AV × TypeId × Option (Nat × Nat)) :=
  match o.op with
  | .alloc t => match E.ty t with
    | some ti => some (ti.zero, t, none)
    | none => none
  | .box t x => match (evalO T x).cells with
    | some cs => some (cs, t, none)
    | none => none
  | .buildSlice t len parts => match aBuildSlice E t len (parts.toList.map fun (i, x) => (i, evalO T x)) with
    | some (cs, e) => some (cs, e, some (len, len))
    | none => none
  | .makeSlice t l c => makeSliceOf E t (evalO T l) (evalO T c)
  | _ => none

def isAlloc (o : Oper) : Bool :=
  match o.op with
  | .alloc _ | .box .. | .buildSlice .. | .makeSlice .. => true
  | _ => false

def mkA (l : Option (Nat × Nat)) (i : Nat) : AV := match l with | none => .ptr i 0 | some p => .sl i 0 p.1 p.2 false
def mkV (l : Option (Nat × Nat)) (b : Nat) : Value := match l with | none => .pointer (some ⟨b, 0, none⟩) | some p => .slice (some ⟨b, 0, none⟩) p.1 p.2

theorem alloc_form (h : isAlloc o = true) : aOp E o T st = match allocOf E o T with
    | some (cs, el, l) => .val (mkA l st.n) (st.new (.cells cs el false))
    | none => aOp E o T st := by
  obtain ⟨dst, op, ty, pos, af, gd⟩ := o
  cases op <;> simp only [isAlloc] at h <;> try (cases h; done)
  case alloc t =>
    simp only [allocOf]
    cases ht : E.ty t with
    | none => rfl
    | some ti => simp only [aOp, opAlloc, ht]; rfl
  case box t x =>
    simp only [allocOf]
    cases ht : (evalO T x).cells with
    | none => rfl
    | some ti => simp only [aOp, opBox, ht]; rfl
  case buildSlice t n ps =>
    simp only [allocOf]
    cases ht : aBuildSlice E t n (ps.toList.map fun (i, x) => (i, evalO T x)) with
    | none => rfl
    | some r => obtain ⟨cs, e⟩ := r; simp only [aOp, opBuildSlice, ht]; rfl
  case makeSlice t l c =>
    simp only [allocOf]
    cases hm : makeSliceOf E t (evalO T l) (evalO T c) with
    | none => rfl
    | some r =>
      obtain ⟨cs, e, p⟩ := r
      simp only [aOp, opMakeSlice]
      unfold makeSliceOf at hm
      unfold aMakeSlice
      repeat' split at hm
      all_goals first | (cases hm; done) | skip
      cases hm
      simp only [*]
      rfl

theorem alloc_none (h : isAlloc o = true) (hn : allocOf E o T = none) : ∃ wy, aOp E o T st = .no wy := by
  obtain ⟨dst, op, ty, pos, af, gd⟩ := o
  cases op <;> simp only [isAlloc] at h <;> try (cases h; done)
  case alloc t =>
    simp only [allocOf] at hn
    cases ht : E.ty t with
    | none => exact ⟨9, by simp only [aOp, opAlloc, ht]⟩
    | some ti => rw [ht] at hn; cases hn
  case box t x =>
    simp only [allocOf] at hn
    cases ht : (evalO T x).cells with
    | none => exact ⟨94, by simp only [aOp, opBox, ht]⟩
    | some ti => rw [ht] at hn; cases hn
  case buildSlice t n ps =>
    simp only [allocOf] at hn
    cases ht : aBuildSlice E t n (ps.toList.map fun (i, x) => (i, evalO T x)) with
    | none => exact ⟨12, by simp only [aOp, opBuildSlice, ht]⟩
    | some r => rw [ht] at hn; cases hn
  case makeSlice t l c =>
    simp only [allocOf] at hn
    refine ⟨60, ?_⟩
    simp only [aOp, opMakeSlice]
    have : aMakeSlice E t (evalO T l) (evalO T c) st = none := by
      unfold makeSliceOf at hn
      unfold aMakeSlice
      repeat' split at hn
      all_goals first | (cases hn; done) | (simp only [*]; done) | (simp [*]; done) | (simp [*]; intros; exfalso; omega)
    rw [this]

theorem aBin_at {op : BinOp} {t : TypeId} {u v : AV} (hop : op ≠ .eql) (hop' : op ≠ .neq) (st1 : St) : aBin E o op t u v T st1 = (aBin E o op t u v T st).at st1 := by
  have hp := aPure_at (E := E) (o := o) (T := T) (st := st) st1
  have hV : ∀ u, aBinV E o op t u v T st1 = (aBinV E o op t u v T st).at st1 := fun u => by
    unfold aBinV; cases op <;> first | exact hp | exact absurd rfl hop | exact absurd rfl hop'
  cases u <;> first | exact hV _ | rfl | skip
  rename_i m
  show aBin2 E o op m v T st1 = (aBin2 E o op m v T st).at st1
  cases v <;> first | exact hp | rfl | skip
  rename_i n
  show contBin E o T st1 (binI op m n) = (contBin E o T st (binI op m n)).at st1
  cases binI op m n <;> first | exact hp | rfl

/-- a light operation that neither allocates nor reads: the state is a mere passenger -/
theorem light_at (h : light o = true) (hr : reader o = false) (ha : isAlloc o = false) (st1 : St) : aOp E o T st1 = (aOp E o T st).at st1 := by
  have hp := aPure_at (E := E) (o := o) (T := T) (st := st) st1
  have hb := fun op t u v h1 h2 => aBin_at (E := E) (o := o) (T := T) (st := st) (op := op) (t := t) (u := u) (v := v) h1 h2 st1
  obtain ⟨dst, op, ty, pos, af, gd⟩ := o
  cases op <;> simp only [light] at h <;> simp only [isAlloc] at ha <;> try (cases h; done)
  all_goals try (cases ha; done)
  case move x => rfl
  case assign x => rfl
  case pick c x y => simp only [aOp, opPick]; split <;> rfl
  case build t ps => simp only [aOp, opBuild]; split <;> rfl
  case load t x => cases hr
  case nilCheck x => simp only [aOp, opNilCheck]; split <;> rfl
  case binOp op t x y yt =>
    simp only [aOp, opBinOp]
    exact hb _ _ _ _ (by rintro rfl; cases hr) (by rintro rfl; cases hr)
  case unOp op t x =>
    simp only [aOp, opUn]
    split
    · split <;> first | rfl | exact hp
    · split <;> first | rfl | exact hp
    · exact hp
  case makeInterface t x => simp only [aOp, opMakeInterface]; split <;> (try split) <;> rfl
  case makeFunc f xs ys => simp only [aOp, opMakeFunc]; split <;> rfl
  case slice t x lo hi mx =>
    simp only [aOp, opSlice]
    split
    · exact hp
    · split <;> rfl
  case fieldAddr t x f => simp only [aOp, opFieldAddr]; repeat' split
                          all_goals rfl
  case field t x f => simp only [aOp, opField]; repeat' split
                      all_goals (try dsimp only) <;> (try split) <;> rfl
  case indexAddr t x ix => simp only [aOp, opIndexAddr]; split <;> rfl
  case index t x ix =>
    simp only [aOp, opIndex]
    split
    · repeat' split
      all_goals (try dsimp only) <;> (try split) <;> rfl
    · exact hp
  case lookup t x k ok => cases hr
  case typeAssert x xt t ok =>
    simp only [aOp, opTypeAssert]
    split
    · repeat' split
      all_goals first | rfl | exact hp
    · exact hp
  case extract t i => simp only [aOp, opExtract]; repeat' split
                      all_goals rfl
  case call c =>
    simp only [aOp, opCall]
    cases hc : c.callee with
    | value f => rw [hc] at h; cases h
    | invoke r m => rw [hc] at h; cases h
    | builtin b =>
      rw [hc] at h
      dsimp only at h
      cases b <;> first | (cases h; done) | skip
      case len => simp only [reader, hc] at hr; cases hr
      all_goals
        dsimp only
        rcases c.args.toList with _ | ⟨x, _ | ⟨y, _ | ⟨z, l⟩⟩⟩ <;> first | exact hp | skip
        dsimp only
        split
        · split <;> first | rfl | exact hp
        · exact hp

/-! ### what an allocation does at the machine -/
theorem newRow_run {P : Program} (el : TypeId) (vs : List Value) (w : World) : (newRow el ⟨vs⟩).run P w = .ok ⟨w.heap.size, 0, none⟩ { w with heap := w.heap.push (.cells ⟨vs⟩ el) } := by simp [newRow]

theorem run_value {P : Program} {s : Sem Value} {x : Value} {w w' : World} (h : s.run P w = .ok x w') : (do let y ← s; pure (.value y) : Sem Next).run P w = .ok (.value x) w' := by simp [h]

theorem alloc_run (hOK : EOK E) (hR : Rel E G ρ st w.heap) (hE : ER ρ T a.tmps) (ho : goodOp E.P.globals.size o = true) {cs : List AV} {el : TypeId} {l : Option (Nat × Nat)} (h : allocOf E o T = some (cs, el, l)) :
    ∃ vs, VRs ρ cs vs ∧ (execOp a.eval o).run E.P w = .ok (.value (mkV l w.heap.size)) { w with heap := w.heap.push (.cells ⟨vs⟩ el) } := by
  have hg : ∀ x ∈ o.op.operands, goodX E.P.globals.size x = true := fun x hx => goodOp_mem ho hx
  have hgl := fun i hi => hR.glob i hi
  obtain ⟨dst, op, ty, pos, af, gd⟩ := o
  simp only [allocOf] at h
  cases op <;> try (cases h; done)
  case alloc t =>
    dsimp only at h
    split at h
    · rename_i ti hti
      obtain ⟨z, h1, h2, h3, _⟩ := (hOK.ty _ _ hti).zero_run w
      cases h
      refine ⟨z.cells.toList, h2 ρ, run_value ?_⟩
      simp [Instr.alloc, h1, newVar]
      rw [show z.cells = ⟨z.cells.toList⟩ from rfl, newRow_run]
      rfl
    · cases h
  case box t x =>
    dsimp only at h
    split at h
    · rename_i cs' hcs
      cases h
      have h1 := VR.evalO hE hgl (hg x (by simp [Op.operands]))
      refine ⟨(a.eval x).cells.toList, h1.cells hcs, run_value ?_⟩
      simp [Instr.box, newVar]
      rw [show (a.eval x).cells = ⟨(a.eval x).cells.toList⟩ from rfl, newRow_run]
      rfl
    · cases h
  case buildSlice t len parts =>
    dsimp only at h
    split at h
    · rename_i cs' e' hv
      cases h
      unfold aBuildSlice at hv
      split at hv
      · rename_i ti hti
        obtain ⟨d, hd, hu⟩ := (hOK.ty _ _ hti).run_underlying
        have hpr := PR.eval hR hE (ps := parts.toList) (fun p hp => hg p.2 (by simp [Op.operands]; exact ⟨p.1, by simpa using hp⟩))
        split at hv
        · rename_i el' es by_ hk
          rw [hk] at hd
          obtain ⟨rfl, rfl, _, hkn⟩ := hd
          split at hv
          · cases hv
          · rename_i hle
            split at hv
            · rename_i te hte
              split at hv
              · rename_i cs2 hf
                obtain ⟨rfl, rfl⟩ : cs2 = cs ∧ el' = el := by simpa using hv
                have hel := hOK.ty _ _ hte
                obtain ⟨z, hz, hzv, hzs, _⟩ := hel.zero_run w
                have hsz : E.P.cellsOf el' = z.cells.size := by rw [hel.size, hzs]
                have hrep := repZero_ok (hzv ρ) len
                obtain ⟨vs, h1, h2⟩ := fill_ok (place' := fun i => some (i * E.P.cellsOf el', E.P.cellsOf el')) (vs := (Array.range (len * E.P.cellsOf el')).map fun i => z.cells[i % z.cells.size]!)
                  (fun i os h => h) hpr (by rw [rep_arr, hsz]; simpa using hrep) hf
                have h1' : Instr.fill (fun i => some (i * E.P.cellsOf el', E.P.cellsOf el')) ((Array.range (len * E.P.cellsOf el')).map fun i => z.cells[i % z.cells.size]!) (parts.map fun (i, x) => (i, a.eval x)).toList = some vs := by
                  rw [Array.toList_map]; exact h1
                refine ⟨vs.toList, h2, run_value ?_⟩
                simp only [Instr.buildSlice, Sem.run_bind, hu, Result.andThen_ok, run_sizeOf' hkn, Sem.run_ite, hle, if_false, Sem.run_pure]
                by_cases h0 : len * E.P.cellsOf el' = 0
                · simp only [h0, if_true, Result.andThen_ok]
                  rw [h0] at h1'
                  have e0 : ∀ (f : Nat → Value), (Array.range 0).map f = #[] := fun f => by simp
                  rw [e0] at h1' ⊢
                  simp only [h1', Sem.run_bind]
                  rw [show vs = ⟨vs.toList⟩ from rfl, newRow_run]
                  rfl
                · simp only [h0, if_false, Sem.run_bind, hz, Result.andThen_ok, Sem.run_pure, h1']
                  rw [show vs = ⟨vs.toList⟩ from rfl, newRow_run]
                  rfl
              · cases hv
            · cases hv
        · cases hv
      · cases hv
    · cases h
  case makeSlice t x y =>
    dsimp only at h
    unfold makeSliceOf at h
    have h1 := VR.evalO hE hgl (hg x (by simp [Op.operands]))
    have h2 := VR.evalO hE hgl (hg y (by simp [Op.operands]))
    split at h
    · rename_i ti l' c hti hl hc
      obtain ⟨k1, e1⟩ := intOf_ok h1 hl
      obtain ⟨k2, e2⟩ := intOf_ok h2 hc
      simp only [execOp]
      rw [e1, e2]
      obtain ⟨d, hd, hu⟩ := (hOK.ty _ _ hti).run_underlying
      split at h
      · rename_i el' es bytes hk
        rw [hk] at hd
        obtain ⟨rfl, rfl, rfl, hkn⟩ := hd
        split at h
        · rename_i hb
          obtain ⟨hl0, hlc, hcb, hc40⟩ := hb
          split at h
          · rename_i te hte
            obtain ⟨rfl, rfl, rfl⟩ : repZero te.zero c.toNat = cs ∧ el' = el ∧ some (l'.toNat, c.toNat) = l := by simpa using h
            have hel := hOK.ty _ _ hte
            obtain ⟨z, hz, hzv, hzs, _⟩ := hel.zero_run w
            have hsz : E.P.cellsOf el' = z.cells.size := by rw [hel.size, hzs]
            have hrep := repZero_ok (hzv ρ) c.toNat
            have h4 := newRow_run (P := E.P) el' ((List.range (c.toNat * z.cells.toList.length)).map fun i => z.cells.toList[i % z.cells.toList.length]!) w
            refine ⟨_, hrep, run_value ?_⟩
            obtain ⟨d', info, z', i1, i2, i3, i4, _⟩ := hel.ex
            have hty : (typeInfo el').run E.P w = .ok info w := by simp [typeInfo, i2]
            have hbytes : E.P.bytesOf el' = info.bytes := by simp [Program.bytesOf, i2]
            have hwl : IntKind.i64.wrap l' = l' := wrap_small hl0 (by omega)
            have hwc : IntKind.i64.wrap c = c := wrap_small (by omega) (by omega)
            have hbc : ¬ ((info.bytes : Int) * c > 2 ^ 48) := by
              rw [hbytes] at hcb
              rw [Int.mul_comm]
              have : (2 : Int) ^ 40 ≤ 2 ^ 48 := by decide
              omega
            have hcond : ((decide (c < 0) || decide ((info.bytes : Int) * c > 2 ^ 48)) || decide (l' < 0) || decide (l' > c)) = false := by
              simp only [hbc, decide_false, Bool.or_false]
              have q1 : ¬ c < 0 := by omega
              have q2 : ¬ l' < 0 := by omega
              have q3 : ¬ l' > c := by omega
              simp [q1, q2, q3]
            have hrow : ∀ zs : Array Value, zs = z.cells ∨ (c.toNat * E.P.cellsOf el' = 0) → (newRow el' ((Array.range (c.toNat * E.P.cellsOf el')).map fun i => zs[i % zs.size]!)).run E.P w = .ok ⟨w.heap.size, 0, none⟩ { w with heap := w.heap.push (.cells ⟨(List.range (c.toNat * z.cells.toList.length)).map fun i => z.cells.toList[i % z.cells.toList.length]!⟩ el') } := by
              intro zs hzs'
              have he : (Array.range (c.toNat * E.P.cellsOf el')).map (fun i => zs[i % zs.size]!) = ⟨(List.range (c.toNat * z.cells.toList.length)).map fun i => z.cells.toList[i % z.cells.toList.length]!⟩ := by
                apply Array.ext'
                rcases hzs' with rfl | h0
                · rw [rep_arr, hsz]; simp
                · have h0' : c.toNat * z.cells.toList.length = 0 := by rw [hsz] at h0; simpa using h0
                  rw [h0, h0']; simp
              rw [he]; exact h4
            simp only [Instr.makeSlice, Sem.run_bind, hu, Result.andThen_ok, asInt, asIntOf, Sem.run_pure, hty, hwl, hwc, hcond, Bool.false_eq_true, if_false, run_askRoom, run_sizeOf' hkn]
            by_cases h0 : c.toNat * E.P.cellsOf el' = 0
            · simp only [h0, if_true, Sem.run_pure, Result.andThen_ok]
              have := hrow #[] (.inr h0)
              rw [h0] at this
              simp only [Sem.run_bind, Sem.run_pure, Result.andThen_ok, this]
              rfl
            · simp only [h0, if_false, Sem.run_bind, hz, Result.andThen_ok, Sem.run_pure, hrow _ (.inl rfl)]
              rfl
          · cases h
        · cases h
      · cases h
    · cases h

theorem mkA_VR {l : Option (Nat × Nat)} {i b : Nat} (h : ρ i = some (b, 0)) : VR ρ (mkA l i) (mkV l b) := by
  cases l with
  | none => exact .ptr h
  | some p => exact .sl (x := false) h

/-- a light operation that does not allocate leaves the state -/
theorem light_state (h : light o = true) (ha : isAlloc o = false) {v : AV} {st' : St} (hv : aOp E o T st = .val v st') : st' = st := by
  cases hr : reader o with
  | false =>
    have := light_at (E := E) (T := T) (st := st) h hr ha st
    rw [hv] at this
    cases this; rfl
  | true =>
    have hp := aPure_at (E := E) (o := o) (T := T) (st := st) st
    have hps : ∀ v st', aPure E o T st = .val v st' → st' = st := fun v st' he => by rw [he] at hp; cases hp; rfl
    obtain ⟨dst, op, ty, pos, af, gd⟩ := o
    cases op <;> simp only [reader] at hr <;> try (cases hr; done)
    case load t x => simp only [aOp, opLoad] at hv; split at hv <;> cases hv; rfl
    case binOp op t x y yt =>
      simp only [aOp, opBinOp] at hv
      have hV : ∀ u, aBinV E ⟨dst, .binOp op t x y yt, ty, pos, af, gd⟩ op t u (evalO T y) T st = .val v st' → st' = st := fun u hu => by
        unfold aBinV at hu
        split at hu
        · split at hu <;> first | (cases hu; rfl) | exact hps _ _ hu
        · split at hu <;> first | (cases hu; rfl) | exact hps _ _ hu
        · exact hps _ _ hu
      generalize evalO T x = u at hv
      cases u <;> first | exact hV _ hv | (cases hv; done) | skip
      rename_i m
      have hv : aBin2 E ⟨dst, .binOp op t x y yt, ty, pos, af, gd⟩ op m (evalO T y) T st = .val v st' := hv
      generalize evalO T y = u at hv
      cases u <;> first | exact hps _ _ hv | (cases hv; done) | skip
      rename_i n
      have hv : contBin E ⟨dst, .binOp op t x y yt, ty, pos, af, gd⟩ T st (binI op m n) = .val v st' := hv
      generalize binI op m n = u at hv
      cases u <;> first | exact hps _ _ hv | (cases hv; done) | (cases hv; rfl)
    case lookup t x k ok =>
      simp only [aOp, opLookup] at hv
      repeat' split at hv
      all_goals first | (cases hv; done) | (cases hv; rfl)
    case entry x => simp only [light] at h; cases h
    case call c =>
      simp only [aOp, opCall] at hv
      cases hc : c.callee with
      | value f => rw [hc] at hr; cases hr
      | invoke r m => rw [hc] at hr; cases hr
      | builtin b =>
        rw [hc] at hr hv
        cases b <;> first | (cases hr; done) | skip
        generalize c.args.toList = la at hv
        generalize c.argTypes.toList = lt at hv
        rcases la with _ | ⟨x, _ | ⟨y, l⟩⟩ <;> first | exact hps _ _ hv | skip
        rcases lt with _ | ⟨t, _ | ⟨t2, l⟩⟩ <;> first | exact hps _ _ hv | skip
        dsimp only at hv
        split at hv
        · cases hv; rfl
        · exact hps _ _ hv

theorem Alike.alloc {ops : Array Oper} (h : Alike ops o T T') (hs : noSel o = true) : allocOf E o T = allocOf E o T' := by
  have h' := h.same
  unfold SameOn at h'
  unfold allocOf
  obtain ⟨dst, op, ty, pos, af, gd⟩ := o
  cases op <;> try rfl
  case box t x => dsimp only; rw [h' x (by simp [Op.operands])]
  case buildSlice t n ps => dsimp only; rw [parts_congr (T := T) (T' := T') (ps := ps) (fun p hp' => h' p.2 (by simp [Op.operands]; exact ⟨p.1, hp'⟩))]
  case makeSlice t x y => dsimp only; rw [h' x (by simp [Op.operands]), h' y (by simp [Op.operands])]

/-! ### the same value -/
mutual
theorem AV.same_eq : ∀ {a b : AV}, AV.same a b = true → a = b
  | .num x, b, h => by cases b <;> simp_all [AV.same]
  | .bool x, b, h => by cases b <;> simp_all [AV.same]
  | .val x, b, h => by
    cases b <;> try (simp [AV.same] at h; done)
    rename_i y
    simp only [AV.same] at h
    split at h
    case h_3 =>
      rename_i p q
      cases p; cases q
      rename_i a b
      have h2 : (a == b) = true := h
      rw [eq_of_beq h2]
    all_goals simp_all
  | .ptr i o, b, h => by cases b <;> simp_all [AV.same]
  | .nes, b, h => by cases b <;> simp_all [AV.same]
  | .sl i o l c x, b, h => by cases b <;> simp_all [AV.same]
  | .mp i, b, h => by cases b <;> simp_all [AV.same]
  | .fn f a c, b, h => by
    cases b <;> try (simp [AV.same] at h; done)
    simp only [AV.same, Bool.and_eq_true] at h
    rw [AV.sames_eq h.1.2, AV.sames_eq h.2]
    simp_all
  | .yld l, b, h => by cases b <;> simp_all [AV.same]
  | .ifc t v, b, h => by
    cases b <;> try (simp [AV.same] at h; done)
    simp only [AV.same, Bool.and_eq_true] at h
    rw [AV.same_eq h.2]
    simp_all
  | .agg a, b, h => by
    cases b <;> try (simp [AV.same] at h; done)
    simp only [AV.same] at h
    rw [AV.sames_eq h]
  | .tup a, b, h => by
    cases b <;> try (simp [AV.same] at h; done)
    simp only [AV.same] at h
    rw [AV.sames_eq h]
  | .top, b, h => by cases b <;> simp [AV.same] at h
theorem AV.sames_eq : ∀ {a b : List AV}, AV.sames a b = true → a = b
  | [], b, h => by cases b <;> simp_all [AV.sames]
  | x :: xs, b, h => by
    cases b with
    | nil => simp [AV.sames] at h
    | cons y ys =>
      simp only [AV.sames, Bool.and_eq_true] at h
      rw [AV.same_eq h.1, AV.sames_eq h.2]
end
end
end Ev
end

section
namespace Ev
open Go

section
variable {E : Env} {G : Good} {ρ ρ0 : Rho} {st st0 : St} {w : World} {T T' : Tr AV} {a : Act} {o : Oper} {h h0 : Array Obj}

/-! ### a number without a block -/
theorem Rel.virt (r : Rel E G ρ st h) (o : AObj) : Rel E G ρ (st.new o) h := by
  have hn : ρ st.n = none := (r.fresh st.n (Nat.le_refl _)).1
  have hlive : ∀ i b e, live (st.new o) i → ρ i = some (b, e) → live st i := by
    rintro i b e ⟨x, hx⟩ hr
    rcases new_get hx with ⟨rfl, _⟩ | ⟨_, h2⟩
    · rw [hn] at hr; cases hr
    · exact ⟨x, h2⟩
  refine ⟨?_, ?_, ?_, r.below, r.glob⟩
  · intro i x b e hx hr
    rcases new_get hx with ⟨rfl, _⟩ | ⟨_, h2⟩
    · rw [hn] at hr; cases hr
    · exact r.obj i x b e h2 hr
  · exact fun i j b e e' hi hj h1 h2 => r.inj i j b e e' (hlive i b e hi h1) (hlive j b e' hj h2) h1 h2
  · intro i hi
    have hi' : st.n + 1 ≤ i := hi
    refine ⟨(r.fresh i (by omega)).1, ?_⟩
    show (st.h.put bits st.n (some o)).get i = none
    rw [Tr.get_put_ne _ _ _ _ _ (by omega)]
    exact (r.fresh i (by omega)).2

theorem Ext.virtual (r : Rel E G ρ st h) (o : AObj) : Ext ρ st h ρ (st.new o) h := by
  have hn : ρ st.n = none := (r.fresh st.n (Nat.le_refl _)).1
  refine ⟨Le.refl ρ, fun _ _ h => h, ?_, by show st.n ≤ st.n + 1; omega, Nat.le_refl _, fun _ _ _ => rfl, ?_⟩
  · intro i hi _
    show (st.h.put bits st.n (some o)).get i = _
    exact Tr.get_put_ne _ _ _ _ _ (by omega)
  · rintro i b e ⟨x, hx⟩ hr
    rcases new_get hx with ⟨rfl, _⟩ | ⟨_, h2⟩
    · rw [hn] at hr; cases hr
    · exact .inr ⟨i, e, ⟨x, h2⟩, hr⟩

/-- the number gets its block, at the heap's end -/
theorem Rel.bind (r : Rel E G ρ st h) {id e : Nat} {ob : Obj} (hid : id < st.n) (hn : ρ id = none) (hob : ∀ x, st.h.get id = some x → OR E G (addρ ρ id h.size e) e x ob) : Rel E G (addρ ρ id h.size e) st (h.push ob) := by
  have le := addρ_le (b := h.size) (e := e) hn
  have hne : ∀ {i b e'}, i ≠ id → addρ ρ id h.size e i = some (b, e') → ρ i = some (b, e') := by
    intro i b e' hi hr; simpa [addρ, hi] using hr
  have hself : ∀ {b e'}, addρ ρ id h.size e id = some (b, e') → b = h.size ∧ e' = e := by
    intro b e' hr; rw [addρ_self] at hr; cases hr; exact ⟨rfl, rfl⟩
  refine ⟨?_, ?_, ?_, ?_, fun g hg => le _ _ (r.glob g hg)⟩
  · intro i x b e' hx hr
    by_cases hi : i = id
    · subst hi
      obtain ⟨rfl, rfl⟩ := hself hr
      exact ⟨ob, by simp, hob x hx⟩
    · obtain ⟨oc, h1, h2⟩ := r.obj i x b e' hx (hne hi hr)
      refine ⟨oc, ?_, h2.mono le⟩
      have hlt := lt_of_some h1
      rw [Array.getElem?_push, if_neg (by omega)]; exact h1
  · intro i j b e1 e2 hi hj h1 h2
    by_cases hi' : i = id <;> by_cases hj' : j = id
    · rw [hi', hj']
    · subst hi'
      obtain ⟨rfl, rfl⟩ := hself h1
      have := r.below j _ _ (hne hj' h2)
      omega
    · subst hj'
      obtain ⟨rfl, rfl⟩ := hself h2
      have := r.below i _ _ (hne hi' h1)
      omega
    · exact r.inj i j b e1 e2 hi hj (hne hi' h1) (hne hj' h2)
  · intro i hi
    have : i ≠ id := by omega
    exact ⟨by simpa [addρ, this] using (r.fresh i hi).1, (r.fresh i hi).2⟩
  · intro i b e' hr
    by_cases hi : i = id
    · subst hi; obtain ⟨rfl, rfl⟩ := hself hr; simp
    · have := r.below i b e' (hne hi hr); simp; omega

theorem Ext.bind (x : Ext ρ0 st0 h0 ρ st h) {id e : Nat} (ob : Obj) (h0id : st0.n ≤ id) (hn : ρ id = none) : Ext ρ0 st0 h0 (addρ ρ id h.size e) st (h.push ob) := by
  refine ⟨x.mono.trans (addρ_le hn), ?_, x.virt, x.n, by have := x.size; simp; omega, ?_, ?_⟩
  · intro i hi hr
    have : i ≠ id := by omega
    simpa [addρ, this] using x.old i hi hr
  · intro c hc hno
    have := x.size
    rw [← x.keep c hc hno, Array.getElem?_push, if_neg (by omega)]
  · intro i b e' hl hr
    by_cases hi : i = id
    · subst hi; rw [addρ_self] at hr; cases hr; exact .inl x.size
    · exact x.dom i b e' hl (by simpa [addρ, hi] using hr)

/-! ### a reader's value beside a new block -/
theorem get_new (hf : st.h.get st.n = none) {ob : AObj} {i : Nat} {x : AObj} (h : st.h.get i = some x) : (st.new ob).h.get i = some x := by
  have : i ≠ st.n := fun he => by rw [he, hf] at h; cases h
  show (st.h.put bits st.n (some ob)).get i = some x
  rw [Tr.get_put_ne _ _ _ _ _ this]; exact h

theorem loadCells_new (hf : st.h.get st.n = none) {ob : AObj} {i o n : Nat} {r : List AV} (h : loadCells st i o n = some r) : loadCells (st.new ob) i o n = some r := by
  unfold loadCells at h ⊢
  split at h
  · rename_i cs e x hx
    rw [get_new hf hx]; exact h
  · cases h

theorem cellOf_new (hf : st.h.get st.n = none) {ob : AObj} {i o : Nat} {v : AV} (h : cellOf o (st.h.get i) = some v) : cellOf o ((st.new ob).h.get i) = some v := by
  cases hx : st.h.get i with
  | none => rw [hx] at h; cases h
  | some x => rw [get_new hf hx]; rw [hx] at h; exact h

theorem loadAgg_new (hf : st.h.get st.n = none) {ob : AObj} {i o n : Nat} {v : AV} (h : loadAgg (loadCells st i o n) = some v) : loadAgg (loadCells (st.new ob) i o n) = some v := by
  cases hx : loadCells st i o n with
  | none => rw [hx] at h; cases h
  | some x => rw [loadCells_new hf hx]; rw [hx] at h; exact h

theorem aLoad_new (hf : st.h.get st.n = none) {ob : AObj} {t : TypeId} {p v : AV} (h : aLoad E t p st = some v) : aLoad E t p (st.new ob) = some v := by
  unfold aLoad at h ⊢
  split at h
  · unfold aLoadAt at h ⊢
    cases hti : E.ty t with
    | none => rw [hti] at h; cases h
    | some ti =>
      rw [hti] at h
      dsimp only at h ⊢
      unfold loadK at h ⊢
      split at h <;> first | exact loadAgg_new hf h | exact cellOf_new hf h
  · cases h

theorem isExt_new (hf : st.h.get st.n = none) {ob : AObj} {i : Nat} {x : Bool} (h : isExt st i = some x) : isExt (st.new ob) i = some x := by
  unfold isExt at h ⊢
  split at h
  · rename_i hx; rw [get_new hf hx]; exact h
  · cases h

theorem addrEq_new (hf : st.h.get st.n = none) {ob : AObj} {i p j q : Nat} {x : Bool} (h : addrEq st i p j q = some x) : addrEq (st.new ob) i p j q = some x := by
  unfold addrEq at h ⊢
  cases hb : Nat.beq i j with
  | true => rw [hb] at h; exact h
  | false =>
    rw [hb] at h
    dsimp only at h ⊢
    cases h1 : isExt st i with
    | none => rw [h1] at h; cases h
    | some y =>
      rw [h1] at h
      rw [isExt_new hf h1]
      cases y with
      | true => cases h
      | false =>
        dsimp only at h ⊢
        cases h2 : isExt st j with
        | none => rw [h2] at h; cases h
        | some z =>
          rw [h2] at h
          rw [isExt_new hf h2]
          exact h

theorem aEqK_new (hf : st.h.get st.n = none) {ob : AObj} {k : TK} {x y : AV} : aEqK k x y (st.new ob) = aEqK k x y st ∨ ((∃ i p j q, x = .ptr i p ∧ y = .ptr j q) ∧ ∀ r, aEqK k x y st = some r → aEqK k x y (st.new ob) = some r) := by
  cases k
  case ptr es =>
   by_cases hh : ∃ i p j q, x = .ptr i p ∧ y = .ptr j q
   · refine .inr ⟨hh, ?_⟩
     obtain ⟨i, p, j, q, rfl, rfl⟩ := hh
     intro r h
     unfold aEqK at h ⊢
     dsimp only at h ⊢
     cases hb : Nat.beq es 0 with
     | true => rw [hb] at h; cases h
     | false => rw [hb] at h; exact addrEq_new hf h
   · left
     unfold aEqK
     dsimp only
     split
     · exact absurd ⟨_, _, _, _, rfl, rfl⟩ hh
     · rfl
     · rfl
     · rfl
  all_goals exact .inl rfl

theorem aEq_new (hf : st.h.get st.n = none) {ob : AObj} {t : TypeId} {x y : AV} : aEq E t x y (st.new ob) = aEq E t x y st ∨ ((∃ i p j q, x = .ptr i p ∧ y = .ptr j q) ∧ ∀ r, aEq E t x y st = some r → aEq E t x y (st.new ob) = some r) := by
  unfold aEq
  cases E.ty t with
  | none => exact .inl rfl
  | some ti => exact aEqK_new hf

theorem aPure_ptr {x : Operand} {i p : Nat} (hx : x ∈ o.op.operands) (hp : evalO T x = .ptr i p) : aPure E o T st = .no 2 := by
  unfold aPure
  rw [if_neg]
  intro hall
  have := (Array.all_eq_true_iff_forall_mem.1 hall) x hx
  rw [hp] at this
  cases this

theorem lenA_new (hf : st.h.get st.n = none) {ob : AObj} {t : TypeId} {x : AV} : lenA E t x (st.new ob) = lenA E t x st ∨ ((∃ i, x = .mp i) ∧ ∀ r, lenA E t x st = some r → lenA E t x (st.new ob) = some r) := by
  unfold lenA
  cases E.ty t with
  | none => exact .inl rfl
  | some ti =>
    dsimp only
    unfold lenK
    cases ti.k <;> try exact .inl rfl
    cases x <;> try exact .inl rfl
    rename_i i
    refine .inr ⟨⟨i, rfl⟩, ?_⟩
    intro r h
    dsimp only at h ⊢
    split at h
    · rename_i hx; rw [get_new hf hx]; exact h
    · cases h

theorem aPure_mp {x : Operand} {i : Nat} (hx : x ∈ o.op.operands) (hp : evalO T x = .mp i) : aPure E o T st = .no 2 := by
  unfold aPure
  rw [if_neg]
  intro hall
  have := (Array.all_eq_true_iff_forall_mem.1 hall) x hx
  rw [hp] at this
  cases this

theorem mapOf_new (hf : st.h.get st.n = none) {ob : AObj} {kt : TypeId} {kv : Value} {x : AV} {r : Option (Nat × Value × AV × Nat)} (h : mapOf E kt kv x st = some r) : mapOf E kt kv x (st.new ob) = some r := by
  unfold mapOf at h ⊢
  split at h
  · exact h
  · split at h
    · rename_i hx
      try dsimp only
      rw [get_new hf hx]; exact h
    · cases h
  · cases h

/-- a light operation's value is the same beside a new block -/
theorem light_new (h : light o = true) (ha : isAlloc o = false) (hf : st.h.get st.n = none) {ob : AObj} {v : AV} (hv : aOp E o T st = .val v st) : aOp E o T (st.new ob) = .val v (st.new ob) := by
  have hp := aPure_at (E := E) (o := o) (T := T) (st := st) (st.new ob)
  have hps : aPure E o T st = .val v st → aPure E o T (st.new ob) = .val v (st.new ob) := fun he => by rw [hp, he]; rfl
  cases hr : reader o with
  | false => rw [light_at (E := E) (T := T) (st := st) h hr ha (st.new ob), hv]; rfl
  | true =>
    have hptr := fun (x : Operand) (i p : Nat) h1 h2 => aPure_ptr (E := E) (T := T) (o := o) (st := st) (x := x) (i := i) (p := p) h1 h2
    have hmp := fun (x : Operand) (i : Nat) h1 h2 => aPure_mp (E := E) (T := T) (o := o) (st := st) (x := x) (i := i) h1 h2
    obtain ⟨dst, op, ty, pos, af, gd⟩ := o
    cases op <;> simp only [reader] at hr <;> try (cases hr; done)
    case load t x =>
      simp only [aOp, opLoad] at hv ⊢
      split at hv
      · rename_i u hu; cases hv; rw [aLoad_new hf hu]
      · cases hv
    case binOp op t x y yt =>
      simp only [aOp, opBinOp] at hv ⊢
      have hV : ∀ u, (u = evalO T x) → aBinV E ⟨dst, .binOp op t x y yt, ty, pos, af, gd⟩ op t u (evalO T y) T st = .val v st → aBinV E ⟨dst, .binOp op t x y yt, ty, pos, af, gd⟩ op t u (evalO T y) T (st.new ob) = .val v (st.new ob) := fun u hue hu => by
        rcases aEq_new (E := E) (t := t) (x := u) (y := evalO T y) hf (ob := ob) with he | ⟨⟨i, p, j, q, h1, h2⟩, he⟩
        · unfold aBinV at hu ⊢
          rw [he]
          cases op <;> first | exact hps hu | skip
          all_goals
            try dsimp only at hu ⊢
            split at hu
            · cases hu; rfl
            · exact hps hu
        · have hn := hptr x i p (by simp [Op.operands]) (by rw [← hue, h1])
          unfold aBinV at hu ⊢
          cases op <;> first | exact hps hu | skip
          all_goals
            try dsimp only at hu ⊢
            split at hu
            · rename_i hh; cases hu; rw [he _ hh]
            · rw [hn] at hu; cases hu
      revert hv
      generalize hu : evalO T x = u
      intro hv
      cases u <;> first | exact hV _ hu.symm hv | (cases hv; done) | skip
      rename_i m
      have hv : aBin2 E ⟨dst, .binOp op t x y yt, ty, pos, af, gd⟩ op m (evalO T y) T st = .val v st := hv
      show aBin2 E ⟨dst, .binOp op t x y yt, ty, pos, af, gd⟩ op m (evalO T y) T (st.new ob) = .val v (st.new ob)
      generalize evalO T y = u at hv
      cases u <;> first | exact hps hv | (cases hv; done) | skip
      rename_i n
      have hv : contBin E ⟨dst, .binOp op t x y yt, ty, pos, af, gd⟩ T st (binI op m n) = .val v st := hv
      show contBin E ⟨dst, .binOp op t x y yt, ty, pos, af, gd⟩ T (st.new ob) (binI op m n) = .val v (st.new ob)
      generalize binI op m n = u at hv
      cases u <;> first | exact hps hv | (cases hv; done) | (cases hv; rfl)
    case lookup t x k ok =>
      simp only [aOp, opLookup] at hv ⊢
      cases hti : E.ty t with
      | none => rw [hti] at hv; cases hv
      | some ti =>
        rw [hti] at hv
        dsimp only at hv ⊢
        cases hk : ti.k <;> rw [hk] at hv <;> try (cases hv; done)
        rename_i kt et
        dsimp only at hv ⊢
        cases hkv : (evalO T k).toVal with
        | none => rw [hkv] at hv; cases hv
        | some kv =>
          rw [hkv] at hv
          dsimp only at hv ⊢
          cases hm : mapOf E kt kv (evalO T x) st with
          | none => rw [hm] at hv; cases hv
          | some r =>
            rw [hm] at hv
            rw [mapOf_new hf hm]
            cases r with
            | some r =>
              obtain ⟨r1, r2, r3, r4⟩ := r
              dsimp only at hv ⊢
              injection hv with hv _
              rw [hv]
            | none =>
              cases hte : E.ty et with
              | none => rw [hte] at hv; cases hv
              | some te =>
                rw [hte] at hv
                dsimp only at hv ⊢
                injection hv with hv _
                rw [hv]
    case entry x => simp only [light] at h; cases h
    case call c =>
      simp only [aOp, opCall] at hv ⊢
      cases hc : c.callee with
      | value f => rw [hc] at hr; cases hr
      | invoke r m => rw [hc] at hr; cases hr
      | builtin b =>
        rw [hc] at hr hv
        cases b <;> first | (cases hr; done) | skip
        have hops : ∀ x ∈ c.args.toList, x ∈ (Op.call c).operands := fun x hx => by simp [Op.operands, Call.operands]; exact .inr (by simpa using hx)
        revert hops
        generalize c.args.toList = la at hv ⊢
        generalize c.argTypes.toList = lt at hv ⊢
        intro hops
        rcases la with _ | ⟨x, _ | ⟨y, l⟩⟩ <;> first | exact hps hv | skip
        rcases lt with _ | ⟨t, _ | ⟨t2, l⟩⟩ <;> first | exact hps hv | skip
        dsimp only at hv ⊢
        rcases lenA_new (E := E) (t := t) (x := evalO T x) hf (ob := ob) with he | ⟨⟨i, h1⟩, he⟩
        · rw [he]
          split at hv
          · cases hv; rfl
          · exact hps hv
        · split at hv
          · rename_i hh; cases hv; rw [he _ hh]
          · rw [hmp x i (hops x (by simp)) h1] at hv; cases hv
end
end Ev
end

section
namespace Ev
open Go

section
variable {D : Array Oper → Bool} {E : Env} {b : Frame} {n : Nat} {car : Option Nat} {k : List Item} {cs : List Frame} {ev : Rec} {ops : Array Oper} {ρ0 ρ : Rho} {st0 st : St} {w0 w : World} {T T' : Tr AV} {df : List ADef} {a : Act}
  {listed : Array Bool} {Dn : List Nat} {vid : Nat → Option Nat} {o q : Oper} {i j : Nat}

/-- an operation that the evaluator has done and the machine has not -/
def PendOK (E : Env) (ops : Array Oper) (ρ : Rho) (n0 : Nat) (st : St) (T : Tr AV) (o : Oper) (vi : Option Nat) : Prop :=
  (wantedA ops.toList o T = some false ∧ vi = none ∧ ∀ d u, o.dst = some d → T.get d = some u → u = undefA) ∨
  (wantedA ops.toList o T = some true ∧ ∃ v, (∀ d u, o.dst = some d → T.get d = some u → u = v) ∧
    ((vi = none ∧ isAlloc o = false ∧ aOp E o T st = .val v st) ∨
     (∃ id cs el l, vi = some id ∧ allocOf E o T = some (cs, el, l) ∧ v = mkA l id ∧ ρ id = none ∧ n0 ≤ id ∧ id < st.n ∧ ∀ x, st.h.get id = some x → x = .cells cs el false)))

theorem PendOK.vnone {n0 : Nat} {vi : Option Nat} (h : PendOK E ops ρ n0 st T o vi) {id : Nat} (hid : vi = some id) : ρ id = none ∧ n0 ≤ id ∧ id < st.n := by
  rcases h with ⟨_, h, _⟩ | ⟨_, v, _, ⟨h, _⟩ | ⟨id', cs, el, l, h, _, _, h1, h2, h3, _⟩⟩
  · rw [h] at hid; cases hid
  · rw [h] at hid; cases hid
  · rw [h] at hid; cases hid; exact ⟨h1, h2, h3⟩

theorem PendOK.mono {n0 : Nat} {vi : Option Nat} {ρ' : Rho} (h : PendOK E ops ρ n0 st T o vi) (hv : ∀ id, vi = some id → ρ' id = none) : PendOK E ops ρ' n0 st T o vi := by
  rcases h with h | ⟨h0, v, h1, h | ⟨id, cs, el, l, g1, g2, g3, g4, g5⟩⟩
  · exact .inl h
  · exact .inr ⟨h0, v, h1, .inl h⟩
  · exact .inr ⟨h0, v, h1, .inr ⟨id, cs, el, l, g1, g2, g3, hv id g1, g5⟩⟩

theorem PendOK.turn {n0 : Nat} {vi : Option Nat} {ρ' : Rho} {st' : St} (h : PendOK E ops ρ n0 st T q vi) (hal : Alike ops q T T') (hdst : ∀ d, q.dst = some d → T'.get d = T.get d) (hs : noSel q = true)
    (hval : ∀ v, isAlloc q = false → wantedA ops.toList q T = some true → (∀ d u, q.dst = some d → T.get d = some u → u = v) → aOp E q T st = .val v st → aOp E q T' st' = .val v st')
    (hid : ∀ id, vi = some id → ρ id = none → id < st.n → ρ' id = none ∧ id < st'.n ∧ st'.h.get id = st.h.get id) : PendOK E ops ρ' n0 st' T' q vi := by
  rcases h with ⟨h0, h1, h2⟩ | ⟨h0, v, h1, ⟨g1, g2, g3⟩ | ⟨id, cs, el, l, g1, g2, g3, g4, g5, g6, g7⟩⟩
  · exact .inl ⟨hal.wanted ▸ h0, h1, fun d u hd hu => h2 d u hd (hdst d hd ▸ hu)⟩
  · exact .inr ⟨hal.wanted ▸ h0, v, fun d u hd hu => h1 d u hd (hdst d hd ▸ hu), .inl ⟨g1, g2, hval v g2 h0 h1 g3⟩⟩
  · obtain ⟨e1, e2, e3⟩ := hid id g1 g4 g6
    exact .inr ⟨hal.wanted ▸ h0, v, fun d u hd hu => h1 d u hd (hdst d hd ▸ hu), .inr ⟨id, cs, el, l, g1, hal.alloc hs ▸ g2, g3, e1, g5, e2, fun x hx => g7 x (e3 ▸ hx)⟩⟩

def pdst (ops : Array Oper) (Dn : List Nat) (listed : Array Bool) : List Tmp := Dn.filterMap fun i => if listed.getD i false then none else (ops[i]?).bind (·.dst)

theorem mem_pdst {t : Tmp} : t ∈ pdst ops Dn listed ↔ ∃ i ∈ Dn, listed.getD i false = false ∧ ∃ o, ops[i]? = some o ∧ o.dst = some t := by
  unfold pdst
  rw [List.mem_filterMap]
  constructor
  · rintro ⟨i, hi, h⟩
    cases hl : listed.getD i false with
    | true => rw [hl] at h; cases h
    | false =>
      rw [hl] at h
      cases ho : ops[i]? with
      | none => rw [ho] at h; cases h
      | some o => rw [ho] at h; exact ⟨i, hi, hl, o, ho, h⟩
  · rintro ⟨i, hi, hl, o, ho, hd⟩
    exact ⟨i, hi, by simp only [hl, ho]; exact hd⟩

/-- whatever is done has its edges behind it -/
def Ord (ops : Array Oper) : List Nat → Prop
  | [] => True
  | i :: Dn => (i ∉ Dn ∧ ∃ o, ops[i]? = some o ∧ ∀ e ∈ o.after, Region.binds .any e = true → e.on ∈ Dn) ∧ Ord ops Dn

theorem Ord.mem : ∀ {Dn : List Nat}, Ord ops Dn → i ∈ Dn → ∃ o, ops[i]? = some o ∧ ∀ e ∈ o.after, Region.binds .any e = true → e.on ∈ Dn
  | [], _, h => by cases h
  | x :: Dn, h, hi => by
    rcases List.mem_cons.1 hi with rfl | hi
    · obtain ⟨o, ho, he⟩ := h.1.2
      exact ⟨o, ho, fun e h1 h2 => List.mem_cons_of_mem _ (he e h1 h2)⟩
    · obtain ⟨o, ho, he⟩ := Ord.mem h.2 hi
      exact ⟨o, ho, fun e h1 h2 => List.mem_cons_of_mem _ (he e h1 h2)⟩

/-- someone is ready -/
theorem Ord.ready : ∀ {Dn : List Nat}, Ord ops Dn → (∃ i ∈ Dn, listed.getD i false = false) → ∃ i ∈ Dn, listed.getD i false = false ∧ ∃ o, ops[i]? = some o ∧ ∀ e ∈ o.after, Region.binds .any e = true → listed.getD e.on false = true
  | [], _, h => by obtain ⟨i, hi, _⟩ := h; cases hi
  | x :: Dn, h, hu => by
    by_cases hin : ∃ i ∈ Dn, listed.getD i false = false
    · obtain ⟨i, hi, h1⟩ := Ord.ready h.2 hin
      exact ⟨i, List.mem_cons_of_mem _ hi, h1⟩
    · obtain ⟨i, hi, hl⟩ := hu
      rcases List.mem_cons.1 hi with rfl | hi
      · obtain ⟨o, ho, he⟩ := h.1.2
        refine ⟨i, List.mem_cons_self .., hl, o, ho, fun e h1 h2 => ?_⟩
        cases hle : listed.getD e.on false with
        | true => rfl
        | false => exact absurd ⟨_, he e h1 h2, hle⟩ hin
      · exact absurd ⟨i, hi, hl⟩ hin

theorem hasEdge_spec (h : hasEdge o j = true) : ∃ e ∈ o.after, Region.binds .any e = true ∧ e.on = j := by
  unfold hasEdge at h
  rw [List.any_eq_true] at h
  obtain ⟨e, he, h⟩ := h
  simp only [Bool.and_eq_true] at h
  exact ⟨e, by simpa using he, h.1, Nat.eq_of_beq_eq_true h.2⟩

structure Fix (E : Env) (n : Nat) (ops : Array Oper) : Prop where
  ok : EOK E
  pair : ∀ i j oi oj, ops[i]? = some oi → ops[j]? = some oj → pairOK ops i j oi oj = true
  all : ∀ (i : Nat) (o : Oper), ops[i]? = some o → opOK E.P.globals.size n o = true

theorem Fix.p1 (hF : Fix E n ops) {oi oj : Oper} (hi : ops[i]? = some oi) (hj : ops[j]? = some oj) (hl : lightIn ops i oi = true ∨ lightIn ops j oj = true) {d : Tmp} (hd : oj.dst = some d) (hlook : looks ops oi d = true) :
    hasEdge oi j = true ∨ (lightIn ops j oj = false ∧ hasEdge oj i = true) := by
  have h := hF.pair i j oi oj hi hj
  unfold pairOK at h
  rw [hd] at h
  have h0 : (lightIn ops i oi || lightIn ops j oj) = true := by rcases hl with h | h <;> simp [h]
  simp only [h0, hlook, Bool.not_true, Bool.false_or, Bool.and_eq_true, Bool.or_eq_true, Bool.not_eq_true'] at h
  rcases h.1 with h | h
  · exact .inl h
  · exact .inr h

theorem Fix.p2 (hF : Fix E n ops) {oi oj : Oper} (hi : ops[i]? = some oi) (hj : ops[j]? = some oj) (hl : lightIn ops i oi = true ∨ lightIn ops j oj = true) (hne : i ≠ j) {d : Tmp} (hd : oj.dst = some d) : oi.dst ≠ some d := by
  intro hdi
  have h := hF.pair i j oi oj hi hj
  unfold pairOK at h
  rw [hd] at h
  have h0 : (lightIn ops i oi || lightIn ops j oj) = true := by rcases hl with h | h <;> simp [h]
  have h1 : Nat.beq i j = false := by
    cases hb : Nat.beq i j with
    | false => rfl
    | true => exact absurd (Nat.eq_of_beq_eq_true hb) hne
  rw [h0, hdi] at h
  simp [h1] at h

structure Game (D : Array Oper → Bool) (E : Env) (b : Frame) (n : Nat) (cs : List Frame) (ops : Array Oper) (ρ0 : Rho) (st0 : St) (w0 : World) (df : List ADef)
    (listed : Array Bool) (Dn : List Nat) (vid : Nat → Option Nat) (T : Tr AV) (ρ : Rho) (st : St) (a : Act) (w : World) : Prop where
  mw : Mw E (GE D E) ρ0 st0 w0 ρ st w
  er : ER ρ (drop T (pdst ops Dn listed)) a.tmps
  n : n ≤ a.tmps.size
  df : DRs ρ df a.defers
  u : st.u = st0.u
  ur : UR ρ b st.u cs
  size : listed.size = ops.size
  ord : Ord ops Dn
  sub : ∀ i, listed.getD i false = true → i ∈ Dn
  lit : ∀ i ∈ Dn, listed.getD i false = false → ∀ o, ops[i]? = some o → lightIn ops i o = true ∧ PendOK E ops ρ st0.n st T o (vid i)
  vinj : ∀ i j id, i ∈ Dn → j ∈ Dn → listed.getD i false = false → listed.getD j false = false → vid i = some id → vid j = some id → i = j

theorem Game.alike (hF : Fix E n ops) (g : Game D E b n cs ops ρ0 st0 w0 df listed Dn vid T ρ st a w) (ho : ops[i]? = some o)
    (hready : ∀ e ∈ o.after, Region.binds .any e = true → listed.getD e.on false = true) : Alike ops o T (drop T (pdst ops Dn listed)) := by
  intro d hd
  refine (drop_out _ _ _ ?_).symm
  intro hm
  obtain ⟨j, hj, hu, q, hq, hqd⟩ := mem_pdst.1 hm
  obtain ⟨hlj, _⟩ := g.lit j hj hu q hq
  rcases hF.p1 ho hq (.inr hlj) hqd hd with h | ⟨h, _⟩
  · obtain ⟨e, he, h1, rfl⟩ := hasEdge_spec h
    rw [hready e he h1] at hu; cases hu
  · rw [hlj] at h; cases h

theorem put_getD_ne {d : Option Tmp} {t : Tmp} {x : Value} (h : d ≠ some t) : (a.put d x).tmps.getD t undef = a.tmps.getD t undef := by
  cases d with
  | none => rfl
  | some d =>
    have : d ≠ t := fun he => h (by rw [he])
    simp [Act.put, Array.getElem?_setIfInBounds_ne this]

theorem set_getD {i j : Nat} (hs : i < listed.size) : (listed.setIfInBounds i true).getD j false = if j = i then true else listed.getD j false := by
  by_cases h : j = i
  · subst h; simp [hs]
  · rw [if_neg h, getD_set_ne false (Ne.symm h)]

theorem putT_get {d : Option Tmp} {t : Tmp} {u v : AV} (h : (putT T d v).get t = some u) : (d = some t ∧ u = v) ∨ (d ≠ some t ∧ T.get t = some u) := by
  cases d with
  | none => exact .inr ⟨by simp, h⟩
  | some d =>
    rcases Tr.put_some (h : (T.put bits d (some v)).get t = some u) with ⟨rfl, h2⟩ | ⟨hne, h2⟩
    · cases h2; exact .inl ⟨rfl, rfl⟩
    · exact .inr ⟨by simpa using Ne.symm hne, h2⟩

theorem putT_ne {d : Option Tmp} {t : Tmp} {v : AV} (h : d ≠ some t) : (putT T d v).get t = T.get t := by
  cases d with
  | none => rfl
  | some d =>
    have : t ≠ d := fun he => h (by rw [he])
    exact Tr.get_put_ne _ _ _ _ _ this

theorem lt_of_get {i : Nat} {o : Oper} (h : ops[i]? = some o) : i < ops.size := (Array.getElem?_eq_some_iff.1 h).1

theorem dst_lt (hop : opOK E.P.globals.size n o = true) (hn : n ≤ a.tmps.size) {t : Tmp} (h : o.dst = some t) : t < a.tmps.size := by
  unfold opOK at hop
  simp only [Bool.and_eq_true] at hop
  exact dstB_ok hop.2 hn t h

theorem put_defers' {d : Option Tmp} {x : Value} : (a.put d x).defers = a.defers := by cases d <;> rfl

/-- the machine has caught up with one operation -/
theorem Game.finish (hF : Fix E n ops) (g : Game D E b n cs ops ρ0 st0 w0 df listed Dn vid T ρ st a w) (ho : ops[i]? = some o) {ρ' : Rho} {w' : World} {x : Value} (hle : Le ρ ρ')
    (hi : i ∈ Dn) (hmw : Mw E (GE D E) ρ0 st0 w0 ρ' st w') (hx : ∀ d u, o.dst = some d → T.get d = some u → VR ρ' u x) (hv : ∀ j ∈ Dn, j ≠ i → listed.getD j false = false → ∀ id, vid j = some id → ρ' id = none) :
    Game D E b n cs ops ρ0 st0 w0 df (listed.setIfInBounds i true) Dn vid T ρ' st (a.put o.dst x) w' := by
  have hlt : i < listed.size := by rw [g.size]; exact lt_of_get ho
  have hset := fun j => set_getD (listed := listed) (i := i) (j := j) hlt
  have hun : ∀ j, (listed.setIfInBounds i true).getD j false = false → j ≠ i ∧ listed.getD j false = false := by
    intro j hj
    rw [hset] at hj
    split at hj
    · cases hj
    · exact ⟨‹_›, hj⟩
  refine ⟨hmw, ?_, by rw [size_put]; exact g.n, by rw [put_defers']; exact g.df.mono hle, g.u, g.ur.mono hle, by simpa using g.size, g.ord, ?_, ?_, ?_⟩
  · intro t u ht
    obtain ⟨hm, hu⟩ := drop_get _ _ _ _ ht
    by_cases hd : o.dst = some t
    · have htl := dst_lt (hF.all i o ho) g.n hd
      refine ⟨by rw [size_put]; exact htl, ?_⟩
      rw [hd]
      simp [Act.put, htl]
      exact hx t u hd hu
    · have hm' : t ∉ pdst ops Dn listed := by
        intro hmem
        obtain ⟨j, hj, hju, q, hq, hqd⟩ := mem_pdst.1 hmem
        refine hm (mem_pdst.2 ⟨j, hj, ?_, q, hq, hqd⟩)
        rw [hset]
        split
        · rename_i he; subst he; rw [ho] at hq; cases hq; exact absurd hqd hd
        · exact hju
      obtain ⟨h1, h2⟩ := g.er t u (by rw [drop_out _ _ _ hm']; exact hu)
      exact ⟨by rw [size_put]; exact h1, by rw [put_getD_ne hd]; exact h2.mono hle⟩
  · intro j hj
    rw [hset] at hj
    split at hj
    · rename_i he; subst he; exact hi
    · exact g.sub j hj
  · intro j hj hju q hq
    obtain ⟨hne, hju'⟩ := hun j hju
    obtain ⟨h1, h2⟩ := g.lit j hj hju' q hq
    exact ⟨h1, h2.mono (fun id hid => hv j hj hne hju' id hid)⟩
  · intro x y id hx hy hux huy h1 h2
    exact g.vinj x y id hx hy (hun x hux).2 (hun y huy).2 h1 h2

theorem Game.vnone (g : Game D E b n cs ops ρ0 st0 w0 df listed Dn vid T ρ st a w) (hj : j ∈ Dn) (hju : listed.getD j false = false) {id : Nat} (hid : vid j = some id) : ρ id = none ∧ st0.n ≤ id ∧ id < st.n := by
  obtain ⟨q, hq, _⟩ := g.ord.mem hj
  exact (g.lit j hj hju q hq).2.vnone hid

theorem lightIn_light (h : lightIn ops i o = true) : light o = true := by
  unfold lightIn at h; simp only [Bool.and_eq_true] at h; exact h.1

theorem light_defer (h : light o = true) : ∀ c, o.op ≠ .defer c := by
  intro c hc; unfold light at h; rw [hc] at h; cases h

/-- the machine takes an operation that the evaluator has done -/
theorem Game.pend_step (hF : Fix E n ops) (g : Game D E b n cs ops ρ0 st0 w0 df listed Dn vid T ρ st a w) (ho : ops[i]? = some o) (hi : i ∈ Dn) (hu : listed.getD i false = false)
    (hready : ∀ e ∈ o.after, Region.binds .any e = true → listed.getD e.on false = true) (l : List Nat) :
    ∃ ρ' a' w', step E.P (lone (At b car a (.inRegion ops (i :: l) :: k)) cs w) = .next (lone (At b car a' (.inRegion ops l :: k)) cs w') ∧
      Game D E b n cs ops ρ0 st0 w0 df (listed.setIfInBounds i true) Dn vid T ρ' st a' w' := by
  obtain ⟨hl, hp⟩ := g.lit i hi hu o ho
  have hop := hF.all i o ho
  have hgo : goodOp E.P.globals.size o = true := by unfold opOK at hop; simp only [Bool.and_eq_true] at hop; exact hop.1
  have hal := g.alike hF ho hready
  have hnd : car = none ∨ ∀ c, o.op ≠ .defer c := .inr (light_defer (lightIn_light hl))
  have hvn : ∀ j ∈ Dn, j ≠ i → listed.getD j false = false → ∀ id, vid j = some id → ρ id = none := fun j hj _ hju id hid => (g.vnone hj hju hid).1
  rcases hp with ⟨hw, _, hd⟩ | ⟨hw, v, hd, ⟨_, hna, hval⟩ | ⟨id, cs', el, lx, hvid, hall, rfl, hn, h0, hlt, hobj⟩⟩
  · have hwant := wantedA_ok (ops := ops) g.er (hal.wanted ▸ hw)
    have hs := sm_op_skip (P := E.P) (b := b) (ar := car) (a := a) (k := k) (cs := cs) (w := w) (ops := ops) (i := i) (rest := l) (by simp [ho, hwant])
    simp only [ho, Option.bind_some] at hs
    exact ⟨ρ, _, w, hs, g.finish hF ho (Le.refl ρ) hi g.mw (fun d u h1 h2 => by rw [hd d u h1 h2]; exact undefA_VR) hvn⟩
  · have hwant := wantedA_ok (ops := ops) g.er (hal.wanted ▸ hw)
    have hOp := aOp_ok hF.ok g.mw.rel g.er hgo
    rw [← aOp_congr hal.same (goodOp_sel hgo), hval] at hOp
    obtain ⟨x, w', ρ', hr, hvr, hm⟩ := hOp
    have hs := sm_value (P := E.P) (b := b) (ar := car) (k := k) (cs := cs) (rest := l) ho hwant hnd hr
    refine ⟨ρ', _, w', hs, g.finish hF ho hm.ext.mono hi (g.mw.trans hm.mw) (fun d u h1 h2 => by rw [hd d u h1 h2]; exact hvr) ?_⟩
    intro j hj hne hju id hid
    obtain ⟨h1, _, h3⟩ := g.vnone hj hju hid
    exact hm.ext.old id h3 h1
  · have hwant := wantedA_ok (ops := ops) g.er (hal.wanted ▸ hw)
    obtain ⟨vs, hvs, hr⟩ := alloc_run hF.ok g.mw.rel g.er hgo (hal.alloc (goodOp_sel hgo) ▸ hall)
    have hs := sm_value (P := E.P) (b := b) (ar := car) (k := k) (cs := cs) (rest := l) ho hwant hnd hr
    refine ⟨addρ ρ id w.heap.size 0, _, _, hs, g.finish hF ho (addρ_le hn) hi ⟨?_, ?_, ?_⟩ (fun d u h1 h2 => by rw [hd d u h1 h2]; exact mkA_VR (addρ_self ρ id _ 0)) ?_⟩
    · exact g.mw.rel.bind hlt hn (fun x hx => by rw [hobj x hx]; exact OR.exact el false (hvs.mono (addρ_le hn)) rfl)
    · exact g.mw.ext.bind _ h0 hn
    · exact g.mw.same.trans ⟨rfl, rfl, rfl⟩
    · intro j hj hne hju id' hid'
      have hne' : id' ≠ id := fun he => hne (g.vinj j i id hj hi hju hu (he ▸ hid') hvid)
      simpa [addρ, hne'] using hvn j hj hne hju id' hid'

/-- an edge leads to what is done, or listed -/
theorem Ord.noEdge {Dn : List Nat} (h : Ord ops Dn) (hj : j ∈ Dn) (hq : ops[j]? = some q) (hi : i ∉ Dn) : hasEdge q i = false := by
  cases he : hasEdge q i with
  | false => rfl
  | true =>
    obtain ⟨e, h1, h2, rfl⟩ := hasEdge_spec he
    obtain ⟨q', hq', hall⟩ := h.mem hj
    rw [hq] at hq'; cases hq'
    exact absurd (hall e h1 h2) hi

theorem Alike.putT {d : Option Tmp} {v : AV} (h : ∀ t, d = some t → looks ops q t = false) : Alike ops q T (putT T d v) := by
  intro t ht
  refine (putT_ne fun hd => ?_).symm
  rw [h t hd] at ht; cases ht

/-- the evaluator does an operation that the machine has not come to yet -/
theorem Game.light (hF : Fix E n ops) (g : Game D E b n cs ops ρ0 st0 w0 df listed Dn vid T ρ st a w) (ho : ops[i]? = some o) (hi : i ∉ Dn) (hl : lightIn ops i o = true) (hord : Ord ops (i :: Dn))
    {v : AV} {st' : St} {vi : Option Nat} (hmw : Mw E (GE D E) ρ0 st0 w0 ρ st' w) (hu : st'.u = st.u) (hme : PendOK E ops ρ st0.n st' (putT T o.dst v) o vi)
    (hval : ∀ q u, Ev.light q = true → isAlloc q = false → aOp E q T st = .val u st → aOp E q T st' = .val u st') (hid : ∀ id, ρ id = none → id < st.n → id < st'.n ∧ st'.h.get id = st.h.get id)
    (hvi : ∀ j ∈ Dn, listed.getD j false = false → ∀ id, vi = some id → vid j ≠ some id) :
    Game D E b n cs ops ρ0 st0 w0 df listed (i :: Dn) (fun j => if j = i then vi else vid j) (putT T o.dst v) ρ st' a w := by
  have hiu : listed.getD i false = false := by
    cases h : listed.getD i false with
    | false => rfl
    | true => exact absurd (g.sub i h) hi
  refine ⟨hmw, ?_, g.n, g.df, hu.trans g.u, hu ▸ g.ur, g.size, hord, fun j hj => List.mem_cons_of_mem _ (g.sub j hj), ?_, ?_⟩
  · intro t u ht
    obtain ⟨hm, hu'⟩ := drop_get _ _ _ _ ht
    have hd : o.dst ≠ some t := fun hd => hm (mem_pdst.2 ⟨i, List.mem_cons_self .., hiu, o, ho, hd⟩)
    have hm' : t ∉ pdst ops Dn listed := fun hmem => by
      obtain ⟨j, hj, hju, q, hq, hqd⟩ := mem_pdst.1 hmem
      exact hm (mem_pdst.2 ⟨j, List.mem_cons_of_mem _ hj, hju, q, hq, hqd⟩)
    rw [putT_ne hd] at hu'
    exact g.er t u (by rw [drop_out _ _ _ hm']; exact hu')
  · intro j hj hju q hq
    by_cases hji : j = i
    · subst hji
      rw [ho] at hq; cases hq
      exact ⟨hl, by simpa using hme⟩
    · have hj' : j ∈ Dn := by rcases List.mem_cons.1 hj with h | h; exact absurd h hji; exact h
      obtain ⟨h1, h2⟩ := g.lit j hj' hju q hq
      refine ⟨h1, ?_⟩
      simp only [hji, if_false]
      have hgo : goodOp E.P.globals.size q = true := by have := hF.all j q hq; unfold opOK at this; simp only [Bool.and_eq_true] at this; exact this.1
      have hal : Alike ops q T (putT T o.dst v) := Alike.putT fun t ht => by
        cases hlk : looks ops q t with
        | false => rfl
        | true =>
          rcases hF.p1 hq ho (.inr hl) ht hlk with h | ⟨h, _⟩
          · rw [g.ord.noEdge hj' hq hi] at h; cases h
          · rw [hl] at h; cases h
      refine h2.turn hal (fun d hd => putT_ne (hF.p2 ho hq (.inl hl) (Ne.symm hji) hd)) (goodOp_sel hgo) ?_ ?_
      · intro u hna _ _ hv
        rw [← aOp_congr hal.same (goodOp_sel hgo)]
        exact hval q u (lightIn_light h1) hna hv
      · intro id _ hr hlt
        exact ⟨hr, hid id hr hlt⟩
  · intro x y id hx hy hux huy h1 h2
    by_cases hxi : x = i <;> by_cases hyi : y = i
    · rw [hxi, hyi]
    · rw [if_pos hxi] at h1
      rw [if_neg hyi] at h2
      have hy' : y ∈ Dn := by rcases List.mem_cons.1 hy with h | h; exact absurd h hyi; exact h
      exact absurd h2 (hvi y hy' huy id h1)
    · rw [if_neg hxi] at h1
      rw [if_pos hyi] at h2
      have hx' : x ∈ Dn := by rcases List.mem_cons.1 hx with h | h; exact absurd h hxi; exact h
      exact absurd h1 (hvi x hx' hux id h2)
    · rw [if_neg hxi] at h1
      rw [if_neg hyi] at h2
      have hx' : x ∈ Dn := by rcases List.mem_cons.1 hx with h | h; exact absurd h hxi; exact h
      have hy' : y ∈ Dn := by rcases List.mem_cons.1 hy with h | h; exact absurd h hyi; exact h
      exact g.vinj x y id hx' hy' hux huy h1 h2

theorem recheck_cons {l : List Oper} : recheck E ops.toList T st (o :: l) = match o.dst with | none => recheck E ops.toList T st l | some d => (recheck1 E ops.toList T st o d && recheck E ops.toList T st l) := by
  unfold recheck
  dsimp only
  cases o.dst with
  | none => rfl
  | some d =>
    dsimp only
    cases recheck1 E ops.toList T st o d <;> rfl

theorem recheck_mem : ∀ {l : List Oper}, recheck E ops.toList T st l = true → q ∈ l → ∀ d, q.dst = some d → recheck1 E ops.toList T st q d = true
  | [], _, h, _, _ => by cases h
  | o :: l, hr, h, d, hd => by
    rw [recheck_cons] at hr
    rcases List.mem_cons.1 h with rfl | h
    · rw [hd] at hr
      simp only [Bool.and_eq_true] at hr
      exact hr.1
    · refine recheck_mem (l := l) ?_ h d hd
      split at hr
      · exact hr
      · simp only [Bool.and_eq_true] at hr; exact hr.2

theorem mem_pick {rs : List Nat} (hj : j ∈ rs) (hq : ops[j]? = some q) : q ∈ pick ops rs := List.mem_filterMap.2 ⟨j, hj, hq⟩

/-- both do a heavy operation -/
theorem Game.heavy (hF : Fix E n ops) (g : Game D E b n cs ops ρ0 st0 w0 df listed Dn vid T ρ st a w) (ho : ops[i]? = some o) (hi : i ∉ Dn) (hord : Ord ops (i :: Dn))
    (hready : ∀ e ∈ o.after, Region.binds .any e = true → listed.getD e.on false = true) {rs : List Nat}
    (hrd : ∀ j ∈ Dn, ∀ q, ops[j]? = some q → lightIn ops j q = true → reader q = true → hasEdge o j = true ∨ (j ∈ rs ∧ ∃ d, q.dst = some d))
    {ρ' : Rho} {st' : St} {w' : World} {v : AV} {x : Value} (hm : Mw E (GE D E) ρ st w ρ' st' w') (hmu : st'.u = st.u) (hv : VR ρ' v x) (hrc : recheck E ops.toList (putT T o.dst v) st' (pick ops rs) = true) :
    Game D E b n cs ops ρ0 st0 w0 df (listed.setIfInBounds i true) (i :: Dn) vid (putT T o.dst v) ρ' st' (a.put o.dst x) w' := by
  have hlt : i < listed.size := by rw [g.size]; exact lt_of_get ho
  have hset := fun j => set_getD (listed := listed) (i := i) (j := j) hlt
  have hle := hm.ext.mono
  have hun : ∀ j, j ∈ i :: Dn → (listed.setIfInBounds i true).getD j false = false → j ≠ i ∧ j ∈ Dn ∧ listed.getD j false = false := by
    intro j hj hju
    rw [hset] at hju
    split at hju
    · cases hju
    · rename_i hne
      rcases List.mem_cons.1 hj with h | h
      · exact absurd h hne
      · exact ⟨hne, h, hju⟩
  have hnoe : ∀ j, listed.getD j false = false → hasEdge o j = false := by
    intro j hju
    cases he : hasEdge o j with
    | false => rfl
    | true =>
      obtain ⟨e, h1, h2, rfl⟩ := hasEdge_spec he
      rw [hready e h1 h2] at hju; cases hju
  refine ⟨g.mw.trans hm, ?_, by rw [size_put]; exact g.n, by rw [put_defers']; exact g.df.mono hle, hmu.trans g.u, hmu ▸ g.ur.mono hle, by simpa using g.size, hord, ?_, ?_, ?_⟩
  · intro t u ht
    obtain ⟨hmt, hu⟩ := drop_get _ _ _ _ ht
    rcases putT_get hu with ⟨hd, rfl⟩ | ⟨hd, hu⟩
    · have htl := dst_lt (hF.all i o ho) g.n hd
      refine ⟨by rw [size_put]; exact htl, ?_⟩
      rw [hd]
      simp [Act.put, htl]
      exact hv
    · have hm' : t ∉ pdst ops Dn listed := by
        intro hmem
        obtain ⟨j, hj, hju, q, hq, hqd⟩ := mem_pdst.1 hmem
        refine hmt (mem_pdst.2 ⟨j, List.mem_cons_of_mem _ hj, ?_, q, hq, hqd⟩)
        rw [hset, if_neg (show ¬ j = i from fun he => hi (he ▸ hj))]
        exact hju
      obtain ⟨h1, h2⟩ := g.er t u (by rw [drop_out _ _ _ hm']; exact hu)
      exact ⟨by rw [size_put]; exact h1, by rw [put_getD_ne hd]; exact h2.mono hle⟩
  · intro j hj
    rw [hset] at hj
    split at hj
    · rename_i he; subst he; exact List.mem_cons_self ..
    · exact List.mem_cons_of_mem _ (g.sub j hj)
  · intro j hj hju q hq
    obtain ⟨hne, hj', hju'⟩ := hun j hj hju
    obtain ⟨h1, h2⟩ := g.lit j hj' hju' q hq
    refine ⟨h1, ?_⟩
    have hgo : goodOp E.P.globals.size q = true := by have := hF.all j q hq; unfold opOK at this; simp only [Bool.and_eq_true] at this; exact this.1
    have hal : Alike ops q T (putT T o.dst v) := Alike.putT fun t ht => by
      cases hlk : looks ops q t with
      | false => rfl
      | true =>
        rcases hF.p1 hq ho (.inl h1) ht hlk with h | ⟨_, h⟩
        · rw [g.ord.noEdge hj' hq hi] at h; cases h
        · rw [hnoe j hju'] at h; cases h
    have hdd : ∀ d, q.dst = some d → (putT T o.dst v).get d = T.get d := fun d hd => putT_ne (hF.p2 ho hq (.inr h1) (Ne.symm hne) hd)
    refine h2.turn hal hdd (goodOp_sel hgo) ?_ ?_
    · intro u hna hw hu hval
      have hval' : aOp E q (putT T o.dst v) st = .val u st := by rw [← aOp_congr hal.same (goodOp_sel hgo)]; exact hval
      cases hr : reader q with
      | false =>
        rw [light_at (E := E) (st := st) (lightIn_light h1) hr hna st', hval']; rfl
      | true =>
        rcases hrd j hj' q hq h1 hr with h | ⟨hjr, d, hd⟩
        · rw [hnoe j hju'] at h; cases h
        · have hk := recheck_mem hrc (mem_pick hjr hq) d hd
          unfold recheck1 at hk
          rw [← hal.wanted, hw] at hk
          dsimp only at hk
          cases hres : aOp E q (putT T o.dst v) st' <;> rw [hres] at hk <;> try (cases hk; done)
          rename_i u' s'
          dsimp only at hk
          have hst := light_state (lightIn_light h1) hna hres
          subst hst
          cases hg : (putT T o.dst v).get d with
          | none => rw [hg] at hk; cases hk
          | some z =>
            rw [hg] at hk
            have e1 := AV.same_eq hk
            have e2 := hu d z hd (by rw [← hdd d hd]; exact hg)
            rw [e1, e2]
    · intro id _ hr hlt'
      exact ⟨hm.ext.old id hlt' hr, Nat.lt_of_lt_of_le hlt' hm.ext.n, hm.ext.virt id hlt' hr⟩
  · intro x y id hx hy hux huy h1 h2
    obtain ⟨_, hx', hux'⟩ := hun x hx hux
    obtain ⟨_, hy', huy'⟩ := hun y hy huy
    exact g.vinj x y id hx' hy' hux' huy' h1 h2
end
end Ev
end
