/- The evaluator: operations, first part. -/
import Derived.Test.YtkjajpfgdjfcoaaGreatDoorEa
import Derived.Orders
set_option linter.unusedVariables false
set_option linter.unusedSimpArgs false
section
namespace Ev
open Go

structure Mv (E : Env) (G : Good) (ρ : Rho) (st : St) (w : World) (ρ' : Rho) (st' : St) (w' : World) : Prop where
  rel : Rel E G ρ' st' w'.heap
  ext : Ext ρ st w.heap ρ' st' w'.heap
  same : Same w w'
  u : st'.u = st.u

theorem Mv.refl {E : Env} {G : Good} {ρ : Rho} {st : St} {w : World} (r : Rel E G ρ st w.heap) : Mv E G ρ st w ρ st w := ⟨r, Ext.refl _ _ _, Same.refl w, rfl⟩
theorem Mv.trans {E : Env} {G : Good} {ρ ρ' ρ'' : Rho} {st st' st'' : St} {w w' w'' : World} (a : Mv E G ρ st w ρ' st' w') (b : Mv E G ρ' st' w' ρ'' st'' w'') : Mv E G ρ st w ρ'' st'' w'' :=
  ⟨b.rel, a.ext.trans b.ext, a.same.trans b.same, b.u.trans a.u⟩

/-! ### values -/
theorem VR.cellV {ρ : Rho} {a : AV} {v : Value} (h : VR ρ a v) (hc : a.cell = true) : v.oneCell' = true := by
  cases h <;> first | rfl | skip
  · simp [AV.cell] at hc
  · cases v <;> first | rfl | (simp [AV.cell] at hc)
  · simp [AV.cell] at hc
  · simp [AV.cell] at hc

theorem VRs.cellsV {ρ : Rho} {as : List AV} {vs : List Value} (h : VRs ρ as vs) (hc : as.all AV.cell = true) : ∀ v ∈ vs, v.oneCell' = true := by
  induction as generalizing vs with
  | nil => cases h; simp
  | cons a as ih =>
    cases h with
    | cons h hs =>
      simp only [List.all_cons, Bool.and_eq_true] at hc
      intro v hv
      rcases List.mem_cons.1 hv with rfl | hv
      · exact h.cellV hc.1
      · exact ih hs hc.2 v hv

theorem VR.cells {ρ : Rho} {a : AV} {v : Value} (h : VR ρ a v) {cs : List AV} (hc : a.cells = some cs) : VRs ρ cs v.cells.toList := by
  cases h <;> simp only [AV.cells] at hc
  case top => cases hc
  case num => cases hc; exact .cons (.num _) .nil
  case bool => cases hc; exact .cons (.bool _) .nil
  case val =>
    split at hc
    · cases hc
      cases v <;> first | exact .cons (.val _) .nil | (simp [Ev.cellV] at *)
    · cases hc
  case ptr h => cases hc; exact .cons (.ptr h) .nil
  case sl h => cases hc; exact .cons (.sl h) .nil
  case nes => cases hc; exact .cons (.nes _ _) .nil
  case mp h => cases hc; exact .cons (.mp h) .nil
  case fn h1 h2 => cases hc; exact .cons (.fn h1 h2) .nil
  case yld h => cases hc; exact .cons (.yld h) .nil
  case ifc h => cases hc; exact .cons (.ifc h) .nil
  case agg h => cases hc; exact h
  case tup => cases hc

mutual
theorem VR.toVal {ρ : Rho} {a : AV} {v u : Value} (h : VR ρ a v) (hu : a.toVal = some u) : v = u := by
  cases h <;> simp only [AV.toVal] at hu
  case top => cases hu
  case num => cases hu; rfl
  case bool => cases hu; rfl
  case val => cases hu; rfl
  case ptr => cases hu
  case sl => cases hu
  case nes => cases hu
  case mp => cases hu
  case fn => cases hu
  case yld => cases hu
  case ifc t a v h =>
    split at hu
    · rename_i x hx; cases hu; rw [VR.toVal h hx]
    · cases hu
  case agg cs vs h =>
    split at hu
    · rename_i x hx; cases hu; rw [VRs.toVals h hx]
    · cases hu
  case tup cs vs h =>
    split at hu
    · rename_i x hx; cases hu; rw [VRs.toVals h hx]
    · cases hu
theorem VRs.toVals {ρ : Rho} {as : List AV} {vs us : List Value} (h : VRs ρ as vs) (hu : AV.toVals as = some us) : vs = us := by
  cases h with
  | nil => simp only [AV.toVals] at hu; cases hu; rfl
  | cons h hs =>
    simp only [AV.toVals] at hu
    split at hu
    · rename_i x xs hx hxs
      cases hu
      rw [VR.toVal h hx, VRs.toVals hs hxs]
    · cases hu
end

theorem VRs.ofConst (ρ : Rho) : ∀ vs : List Value, VRs ρ (vs.map Ev.ofConst) vs
  | [] => .nil
  | v :: vs => .cons (VR.ofConst ρ v) (VRs.ofConst ρ vs)

theorem VR.ofVal (ρ : Rho) (v : Value) : VR ρ (ofVal v) v := by
  unfold Ev.ofVal
  split
  · rename_i cs; exact .tup (VRs.ofConst ρ cs.toList)
  · exact VR.ofConst ρ v

/-! ### operations on values without addresses -/
theorem pureRun_ok {P : Program} {α : Type} : ∀ (s : Sem α) (a : α), pureRun P s = some a → ∀ w, s.run P w = .ok a w := by
  intro s
  induction s with
  | pure a => intro b h w; simp only [pureRun] at h; cases h; rfl
  | program k ih => intro b h w; simp only [pureRun] at h; exact ih P b h w
  | mark m k ih => intro b h w; simp only [pureRun] at h; exact ih b h w
  | _ => intro b h w; simp [pureRun] at h

def noSel (o : Oper) : Bool := match o.op with | .select .. => false | _ => true

theorem noSel_spec {o : Oper} (h : noSel o = true) : ∀ cs b, o.op ≠ .select cs b := by
  intro cs b he
  simp [noSel, he] at h

/-- the operands are in order -/
def goodOp (g : Nat) (o : Oper) : Bool := o.op.operands.all (goodX g) && noSel o

theorem goodOp_mem {g : Nat} {o : Oper} (h : goodOp g o = true) {x : Operand} (hx : x ∈ o.op.operands) : goodX g x = true := by
  simp only [goodOp, Bool.and_eq_true] at h
  exact (Array.all_eq_true_iff_forall_mem.1 h.1) x hx

theorem goodOp_sel {g : Nat} {o : Oper} (h : goodOp g o = true) : noSel o = true := by
  simp only [goodOp, Bool.and_eq_true] at h; exact h.2

/-- what an operation's result says of the machine -/
def OpR (E : Env) (G : Good) (ρ : Rho) (st : St) (w : World) (r : Result Next) : Res → Prop
  | .val v st' => ∃ x w' ρ', r = .ok (.value x) w' ∧ VR ρ' v x ∧ Mv E G ρ st w ρ' st' w'
  | .skip st' => ∃ w' ρ', r = .ok .skip w' ∧ Mv E G ρ st w ρ' st' w'
  | .enter f args st' => st' = st ∧ ∃ xs, r = .ok (.enter f ⟨xs⟩) w ∧ VRs ρ args xs
  | .round l args => ∃ b e xs, ρ l = some (b, e) ∧ VRs ρ args xs ∧ r = (Instr.yield b ⟨xs⟩).run E.P w
  | .defer d => ∃ c, r = .ok (.defer c) w ∧ DR ρ d c
  | .recover => r = .ok .recover w
  | .panic v st' => st' = st ∧ ∃ x, r = .halt (.panic x) w ∧ VR ρ v x
  | .no _ => True

section
variable {E : Env} {G : Good} {ρ : Rho} {st : St} {w : World} {T : Tr AV} {a : Act} {o : Oper}

theorem aPure_ok (hR : Rel E G ρ st w.heap) (hE : ER ρ T a.tmps) (ho : goodOp E.P.globals.size o = true) : OpR E G ρ st w ((execOp a.eval o).run E.P w) (aPure E o T st) := by
  unfold aPure
  split
  · rename_i hall
    have hx : ∀ x ∈ o.op.operands, valO T x = a.eval x := by
      intro x hx
      have h1 := (Array.all_eq_true_iff_forall_mem.1 hall) x hx
      obtain ⟨u, hu⟩ := Option.isSome_iff_exists.1 h1
      have h2 := (VR.evalO hE (fun i hi => hR.glob i hi) (goodOp_mem ho hx)).toVal hu
      simp [valO, hu, h2]
    rw [← execOp_congr o (noSel_spec (goodOp_sel ho)) hx]
    cases hp : pureRun E.P (execOp (valO T) o) with
    | none => trivial
    | some n =>
      have hrun := pureRun_ok _ _ hp w
      cases n <;> simp only [] <;> try trivial
      · exact ⟨_, w, ρ, hrun, VR.ofVal ρ _, Mv.refl hR⟩
      · exact ⟨w, ρ, hrun, Mv.refl hR⟩
  · trivial

/-! ### loads and stores -/
theorem rel_cells (hR : Rel E G ρ st w.heap) {i b e : Nat} (hi : ρ i = some (b, e)) {cs : List AV} {el : TypeId} {x : Bool} (hc : st.h.get i = some (.cells cs el x)) :
    ∃ vs rest fr, w.heap[b]? = some (.cells ⟨vs ++ rest⟩ el fr) ∧ VRs ρ cs vs ∧ fineFr (vs.length + rest.length) fr ∧ (x = false → rest = [] ∧ e = 0 ∧ fr = (0, 0)) ∧
      (∀ ti, E.ty el = some ti → rest.length = e * ti.size) := by
  obtain ⟨ob, h1, h2⟩ := hR.obj i _ b e hc hi
  cases h2 with
  | cells vs rest fr h hf hx he => exact ⟨vs, rest, fr, h1, h, hf, hx, he⟩

theorem ltake_length {α : Type} : ∀ (n : Nat) (l : List α), ltake n l = l.take n
  | 0, _ => rfl
  | _ + 1, [] => rfl
  | n + 1, x :: xs => by simp [ltake, ltake_length n xs]

theorem ldrop_eq {α : Type} : ∀ (n : Nat) (l : List α), ldrop n l = l.drop n
  | 0, _ => rfl
  | _ + 1, [] => rfl
  | n + 1, x :: xs => by simp [ldrop, ldrop_eq n xs]

theorem loadCells_ok (hR : Rel E G ρ st w.heap) {i b e ofs n : Nat} (hi : ρ i = some (b, e)) {cs : List AV} (h : Ev.loadCells st i ofs n = some cs) :
    ∃ vs, (Go.loadCells ⟨b, ofs, none⟩ n).run E.P w = .ok ⟨vs⟩ w ∧ VRs ρ cs vs ∧ vs.length = n := by
  unfold Ev.loadCells at h
  split at h
  · rename_i all el x hg
    obtain ⟨vs, rest, fr, h1, h2, h3, h4, h5⟩ := rel_cells hR hi hg
    dsimp only at h
    split at h
    · rename_i hl
      cases h
      have hv := (h2.drop ofs).take n
      have hlen := hv.length
      rw [hl] at hlen
      have e1 : ((vs ++ rest).drop ofs).take n = (vs.drop ofs).take n := by
        have : ofs + n ≤ vs.length ∨ n = 0 := by
          simp at hlen; omega
        rcases this with h | h
        · rw [List.drop_append_of_le_length (by omega), List.take_append_of_le_length (by simp; omega)]
        · subst h; simp
      refine ⟨(vs.drop ofs).take n, ?_, hv, hlen.symm⟩
      have := run_loadCells' (P := E.P) w b ofs n h1 (by rw [e1]; exact hlen.symm)
      rw [this, e1]
    · cases h
  · cases h

theorem cellOf_ok (hR : Rel E G ρ st w.heap) {i b e ofs : Nat} (hi : ρ i = some (b, e)) {v : AV} (h : cellOf ofs (st.h.get i) = some v) :
    ∃ x, w.cell? ⟨b, ofs, none⟩ = some x ∧ VR ρ v x := by
  unfold cellOf at h
  split at h
  · rename_i ob hg
    split at h <;> try cases h
    case h_2 =>
      rename_i k cs
      obtain ⟨oc, h1, h2⟩ := hR.obj _ _ _ _ hg hi
      cases h2 with
      | ro vs el fr h2 =>
        obtain ⟨y, hy, hv⟩ := h2.get h
        exact ⟨y, by rw [cell_of w b _ h1]; exact hy, hv⟩
    rename_i cs el x
    obtain ⟨vs, rest, fr, h1, h2, h3, h4, h5⟩ := rel_cells hR hi hg
    obtain ⟨y, hy, hv⟩ := h2.get h
    refine ⟨y, ?_, hv⟩
    rw [cell_of w b _ h1, List.getElem?_append_left]
    · exact hy
    · rcases Nat.lt_or_ge ofs vs.length with h' | h'
      · exact h'
      · simp [List.getElem?_eq_none h'] at hy
  · cases h

theorem loadK_ok (hR : Rel E G ρ st w.heap) {i b e ofs : Nat} {t : TypeId} {ti : TI} (ht : TIOK E.P t ti) (hi : ρ i = some (b, e)) {v : AV} (h : loadK st i ofs ti.size ti.k = some v) :
    ∃ x, (loadVar t ⟨b, ofs, none⟩).run E.P w = .ok x w ∧ VR ρ v x := by
  have hag := ht.agg
  have hka := run_isAgg' ht.known w
  have hsz := run_sizeOf' ht.known w
  have scal : ∀ {v : AV}, isAggT E.P t = false → cellOf ofs (st.h.get i) = some v → ∃ x, (loadVar t ⟨b, ofs, none⟩).run E.P w = .ok x w ∧ VR ρ v x := by
    intro v hf hc
    obtain ⟨x, h1, h2⟩ := cellOf_ok hR hi hc
    refine ⟨x, ?_, h2⟩
    simp [loadVar, Sem.run_bind, hka, hf, h1]
  have aggr : ∀ {v : AV}, isAggT E.P t = true → loadAgg (Ev.loadCells st i ofs ti.size) = some v → ∃ x, (loadVar t ⟨b, ofs, none⟩).run E.P w = .ok x w ∧ VR ρ v x := by
    intro v hf hc
    unfold loadAgg at hc
    split at hc
    · rename_i cs hcs
      cases hc
      obtain ⟨vs, h1, h2, h3⟩ := loadCells_ok hR hi hcs
      refine ⟨.agg ⟨vs⟩, ?_, .agg h2⟩
      simp [loadVar, Sem.run_bind, hka, hf, hsz, ht.size, h1]
    · cases hc
  unfold loadK at h
  split at h <;> rename_i hk <;> rw [hk] at hag <;> first | exact aggr hag h | exact scal hag h

theorem aLoad_ok (hOK : EOK E) (hR : Rel E G ρ st w.heap) {t : TypeId} {p : AV} {y : Value} (hp : VR ρ p y) {v : AV} (h : aLoad E t p st = some v) :
    ∃ b ofs x, y = .pointer (some ⟨b, ofs, none⟩) ∧ (loadVar t ⟨b, ofs, none⟩).run E.P w = .ok x w ∧ VR ρ v x := by
  unfold aLoad at h
  split at h
  · cases hp with
    | ptr hi =>
    unfold aLoadAt at h
    split at h
    · cases h
    · rename_i ti hti
      obtain ⟨x, h1, h2⟩ := loadK_ok hR (hOK.ty _ _ hti) hi h
      exact ⟨_, _, x, rfl, h1, h2⟩
  · cases h

theorem storeCells_ok (hR : Rel E G ρ st w.heap) {i b e ofs : Nat} (hi : ρ i = some (b, e)) {us : List AV} {xs : List Value} (hx : VRs ρ us xs) {st' : St} (h : Ev.storeCells st i ofs us = some st') :
    ∃ w', (Go.storeCells ⟨b, ofs, none⟩ xs).run E.P w = .ok () w' ∧ Mv E G ρ st w ρ st' w' := by
  unfold Ev.storeCells at h
  split at h
  · cases hx; cases h; exact ⟨w, by simp [Go.storeCells], Mv.refl hR⟩
  · rename_i u us
    split at h
    · rename_i hall
      split at h
      · rename_i cs el x hg
        split at h
        · rename_i cs' hp
          cases h
          obtain ⟨vs, rest, fr, h1, h2, h3, h4, h5⟩ := rel_cells hR hi hg
          rcases h2.put hx hp with ⟨h6, h7⟩ | ⟨h6, _⟩
          · obtain ⟨w', hr, hb, hs, ho, hsame⟩ := run_storeCells (P := E.P) b ofs el fr xs (vs ++ rest) 0 w h1 (by simpa using h3) (by simp; omega) (hx.cellsV hall)
            refine ⟨w', hr, ?_⟩
            have hl : (vs ++ rest).take (ofs + 0) ++ xs ++ (vs ++ rest).drop (ofs + 0 + xs.length) = (vs.take ofs ++ xs ++ vs.drop (ofs + xs.length)) ++ rest := by
              simp only [Nat.add_zero]
              rw [List.take_append_of_le_length (by omega), List.drop_append_of_le_length (by omega)]
              simp
            rw [hl] at hb
            have hlen : (vs.take ofs ++ xs ++ vs.drop (ofs + xs.length)).length = vs.length := by simp; omega
            obtain ⟨r1, r2⟩ := hR.upd (o' := .cells cs' el x) hg hi hs ho hb (.cells _ rest fr h6 (by rw [hlen]; exact h3) h4 h5)
            exact ⟨r1, r2, hsame, rfl⟩
          · cases h6
        · cases h
      · cases h
    · cases h

theorem aStore_ok (hOK : EOK E) (hR : Rel E G ρ st w.heap) {t : TypeId} {p v : AV} {y x : Value} (hp : VR ρ p y) (hv : VR ρ v x) {st' : St} (h : aStore E t p v st = some st') :
    ∃ w', (Instr.storeAt t y x).run E.P w = .ok () w' ∧ Mv E G ρ st w ρ st' w' := by
  unfold aStore at h
  split at h
  · cases hp with
    | ptr hi =>
    split at h
    · rename_i ti hti
      split at h
      · rename_i cs hcs
        split at h
        · rename_i hb
          have hl := Nat.eq_of_beq_eq_true hb
          have ht := hOK.ty _ _ hti
          have hvs := hv.cells hcs
          obtain ⟨w', h1, h2⟩ := storeCells_ok hR hi hvs h
          refine ⟨w', ?_, h2⟩
          have hsz := run_sizeOf' ht.known w
          have hlen : x.cells.size = E.P.cellsOf t := by
            rw [ht.size, ← hl, hvs.length]; simp
          simp [Instr.storeAt, Instr.sureAddr, storeVar, Sem.run_bind, hsz, hlen]
          simpa using h1
        · cases h
      · cases h
    · cases h
  · cases h
end
end Ev
end

section
namespace Ev
open Go

section
variable {E : Env} {G : Good} {ρ : Rho} {st : St} {w : World} {T : Tr AV} {a : Act} {o : Oper}

/-- an operation that yields a value -/
theorem OpR.of_value {s : Sem Value} {v : AV} {st' : St} (h : ∃ x w' ρ', s.run E.P w = .ok x w' ∧ VR ρ' v x ∧ Mv E G ρ st w ρ' st' w') :
    OpR E G ρ st w ((do let y ← s; pure (.value y) : Sem Next).run E.P w) (.val v st') := by
  obtain ⟨x, w', ρ', h1, h2, h3⟩ := h
  exact ⟨x, w', ρ', by simp [h1], h2, h3⟩

theorem OpR.of_still {s : Sem Value} {v : AV} (hR : Rel E G ρ st w.heap) (h : ∃ x, s.run E.P w = .ok x w ∧ VR ρ v x) :
    OpR E G ρ st w ((do let y ← s; pure (.value y) : Sem Next).run E.P w) (.val v st) := by
  obtain ⟨x, h1, h2⟩ := h
  exact .of_value ⟨x, w, ρ, h1, h2, Mv.refl hR⟩

theorem OpR.of_skip {s : Sem Unit} {st' : St} (h : ∃ w' ρ', s.run E.P w = .ok () w' ∧ Mv E G ρ st w ρ' st' w') :
    OpR E G ρ st w ((do s; pure .skip : Sem Next).run E.P w) (.skip st') := by
  obtain ⟨w', ρ', h1, h2⟩ := h
  exact ⟨w', ρ', by simp [h1], h2⟩

/-- a new block at the heap's end -/
theorem Mv.new {w' : World} (hR : Rel E G ρ st w.heap) {ob : AObj} {b : Obj} {e : Nat} (hw : w'.heap = w.heap.push b) (hs : Same w w') (ho : OR E G ρ e ob b) :
    Mv E G ρ st w (addρ ρ st.n w.heap.size e) (st.new ob) w' := by
  obtain ⟨h1, h2⟩ := hR.new (h' := w'.heap) (o := ob) (b := w.heap.size) (e := e) (ob := b) (by rw [hw]; simp) (by
    intro c hc hlt
    rw [hw, Array.getElem?_push, if_neg hc]) (by rw [hw]; simp) ho (fun i e' _ hr => by have := hR.below i _ e' hr; omega)
  exact ⟨h1, h2 (Nat.le_refl _), hs, rfl⟩

theorem opMove_ok (hR : Rel E G ρ st w.heap) (hE : ER ρ T a.tmps) {x : Operand} (hx : goodX E.P.globals.size x = true) :
    OpR E G ρ st w ((pure (.value (a.eval x)) : Sem Next).run E.P w) (opMove E o T st x) :=
  ⟨a.eval x, w, ρ, rfl, VR.evalO hE (fun i hi => hR.glob i hi) hx, Mv.refl hR⟩

theorem opPick_ok (hR : Rel E G ρ st w.heap) (hE : ER ρ T a.tmps) {c x y : Operand} (hc : goodX E.P.globals.size c = true) (hx : goodX E.P.globals.size x = true) (hy : goodX E.P.globals.size y = true) :
    OpR E G ρ st w ((do pure (.value (if ← asBool (a.eval c) then a.eval x else a.eval y)) : Sem Next).run E.P w) (opPick E o T st c x y) := by
  have h1 := VR.evalO hE (fun i hi => hR.glob i hi) hc
  unfold opPick
  split
  · rename_i b hb
    rw [hb] at h1
    generalize a.eval c = z at h1
    cases h1
    cases b
    · exact ⟨a.eval y, w, ρ, by simp [asBool], VR.evalO hE (fun i hi => hR.glob i hi) hy, Mv.refl hR⟩
    · exact ⟨a.eval x, w, ρ, by simp [asBool], VR.evalO hE (fun i hi => hR.glob i hi) hx, Mv.refl hR⟩
  · trivial

theorem opLoad_ok (hOK : EOK E) (hR : Rel E G ρ st w.heap) (hE : ER ρ T a.tmps) {t : TypeId} {x : Operand} (hx : goodX E.P.globals.size x = true) :
    OpR E G ρ st w ((do let y ← Instr.loadAt t (a.eval x); pure (.value y) : Sem Next).run E.P w) (opLoad E o T st t x) := by
  unfold opLoad
  split
  · rename_i v hv
    obtain ⟨b, ofs, y, h1, h2, h3⟩ := aLoad_ok hOK hR (VR.evalO hE (fun i hi => hR.glob i hi) hx) hv
    exact .of_still hR ⟨y, by rw [h1]; simpa [Instr.loadAt, Instr.sureAddr] using h2, h3⟩
  · trivial

theorem opStore_ok (hOK : EOK E) (hR : Rel E G ρ st w.heap) (hE : ER ρ T a.tmps) {t : TypeId} {x y : Operand} (hx : goodX E.P.globals.size x = true) (hy : goodX E.P.globals.size y = true) :
    OpR E G ρ st w ((do Instr.storeAt t (a.eval x) (a.eval y); pure .skip : Sem Next).run E.P w) (opStore E o T st t x y) := by
  unfold opStore
  split
  · rename_i v hv
    obtain ⟨w', h1, h2⟩ := aStore_ok hOK hR (VR.evalO hE (fun i hi => hR.glob i hi) hx) (VR.evalO hE (fun i hi => hR.glob i hi) hy) hv
    exact .of_skip ⟨w', ρ, h1, h2⟩
  · trivial

theorem fieldOf_map {P : Program} : ∀ {l : List Field} {i fo sz : Nat}, fieldOf (l.map fun f => (f.offset, P.cellsOf f.type, isAggT P f.type)) i = some (fo, sz) →
    ∃ f, l[i]? = some f ∧ f.offset = fo ∧ P.cellsOf f.type = sz
  | [], i, _, _, h => by simp [fieldOf] at h
  | f :: l, i, fo, sz, h => by
    cases i with
    | zero => simp [fieldOf] at h; exact ⟨f, by simp, h.1, h.2⟩
    | succ i => simp only [List.map_cons, fieldOf] at h; simpa using fieldOf_map h

theorem fieldOf3_map {P : Program} : ∀ {l : List Field} {i fo sz : Nat} {ag : Bool}, fieldOf3 (l.map fun f => (f.offset, P.cellsOf f.type, isAggT P f.type)) i = some (fo, sz, ag) →
    ∃ f, l[i]? = some f ∧ f.offset = fo ∧ P.cellsOf f.type = sz ∧ isAggT P f.type = ag
  | [], i, _, _, _, h => by simp [fieldOf3] at h
  | f :: l, i, fo, sz, ag, h => by
    cases i with
    | zero => simp [fieldOf3] at h; exact ⟨f, by simp, h.1, h.2.1, h.2.2⟩
    | succ i => simp only [List.map_cons, fieldOf3] at h; simpa using fieldOf3_map h

theorem opFieldAddr_ok (hOK : EOK E) (hR : Rel E G ρ st w.heap) (hE : ER ρ T a.tmps) {t : TypeId} {x : Operand} {f : Nat} (hx : goodX E.P.globals.size x = true) :
    OpR E G ρ st w ((do let y ← Instr.fieldAt t (a.eval x) f; pure (.value y) : Sem Next).run E.P w) (opFieldAddr E o T st t x f) := by
  have h1 := VR.evalO hE (fun i hi => hR.glob i hi) hx
  unfold opFieldAddr
  split
  · rename_i ti i off hti hp
    rw [hp] at h1
    generalize a.eval x = z at h1
    cases h1 with
    | ptr hi =>
    obtain ⟨d, hk, hu⟩ := (hOK.ty _ _ hti).run_underlying
    split
    · rename_i fs hfs
      rw [hfs] at hk
      obtain ⟨fields, rfl, rfl, hkn⟩ := hk
      split
      · rename_i fo sz hfo
        obtain ⟨fl, h2, h3, h4⟩ := fieldOf_map hfo
        split
        · trivial
        · rename_i hsz
          have h2' : fields[f]? = some fl := by simpa using h2
          have hmem : fl ∈ fields := Array.mem_of_getElem? h2'
          refine .of_still hR ⟨_, ?_, .ptr hi⟩
          simp [Instr.fieldAt, hu, h2', Instr.sureAddr, fieldPlace, run_sizeOf' (hkn fl hmem), h4, hsz, addr_add, h3]
      · trivial
    · trivial
  · trivial

theorem intOf_ok {v : AV} {x : Value} {n : Int} (h : VR ρ v x) (hn : aIntOf v = some n) : ∃ k, x = .int k n := by
  unfold aIntOf at hn
  split at hn
  · cases hn; cases h; exact ⟨_, rfl⟩
  · cases hn; cases h; exact ⟨_, rfl⟩
  · cases hn

theorem opIndexAddr_ok (hOK : EOK E) (hR : Rel E G ρ st w.heap) (hE : ER ρ T a.tmps) {t : TypeId} {x ix : Operand} (hx : goodX E.P.globals.size x = true) (hix : goodX E.P.globals.size ix = true) :
    OpR E G ρ st w ((do let y ← Instr.indexAt t (a.eval x) (a.eval ix); pure (.value y) : Sem Next).run E.P w) (opIndexAddr E o T st t x ix) := by
  have h1 := VR.evalO hE (fun i hi => hR.glob i hi) hx
  have h2 := VR.evalO hE (fun i hi => hR.glob i hi) hix
  unfold opIndexAddr
  split
  · rename_i v hv
    unfold aIndexAddr at hv
    split at hv
    · rename_i i ti hi hti
      obtain ⟨k, hk⟩ := intOf_ok h2 hi
      obtain ⟨d, hd, hu⟩ := (hOK.ty _ _ hti).run_underlying
      rw [hk]
      generalize evalO T x = u at h1 hv
      generalize a.eval x = z at h1
      split at hv
      · rename_i n es ea b off htk
        rw [htk] at hd
        obtain ⟨e, rfl, rfl, _, hkn⟩ := hd
        split at hv
        · rename_i hb
          cases hv
          cases h1 with
          | ptr hr =>
          refine .of_still hR ⟨_, ?_, .ptr hr⟩
          simp [Instr.indexAt, asIntOf, hu, Instr.sureAddr, hb, run_sizeOf' hkn, addr_add]
        · cases hv
      · rename_i el es by_ b off len cap ex htk
        rw [htk] at hd
        obtain ⟨rfl, rfl, _, hkn⟩ := hd
        split at hv
        · rename_i hb
          cases hv
          cases h1 with
          | sl hr =>
          refine .of_still hR ⟨_, ?_, .ptr hr⟩
          simp [Instr.indexAt, asIntOf, hu, hb, run_sizeOf' hkn, addr_add]
        · cases hv
      · cases hv
    · cases hv
  · trivial

/-! ### new blocks -/
theorem TIOK.zero_run {t : TypeId} {ti : TI} (h : TIOK E.P t ti) (w : World) : ∃ z, (zeroValue t).run E.P w = .ok z w ∧ (∀ ρ, VRs ρ ti.zero z.cells.toList) ∧ z.cells.size = ti.size ∧
    (∀ ρ, VR ρ (match ti.k with | .struct _ | .array .. => AV.agg ti.zero | _ => (ti.zero.head?).getD undefA) z) := by
  have hag := h.agg
  obtain ⟨d, info, z, h1, h2, h3, h4, h5, h6, h7, h8⟩ := h.ex
  refine ⟨z, by simp [zeroValue, typeInfo, h2, h4], fun ρ => by rw [h5]; exact VRs.mkVal ρ _, h6, fun ρ => ?_⟩
  have scal : isAggT E.P t = false → VR ρ ((ti.zero.head?).getD undefA) z := by
    intro hf
    have hn : ¬ ∃ c, z = .agg c := fun hc => by rw [h7.1 hc] at hf; cases hf
    have hc : z.cells = #[z] := by
      cases z <;> first | rfl | exact absurd ⟨_, rfl⟩ hn
    rw [h5, hc]
    exact VR.mkVal ρ z
  have aggr : isAggT E.P t = true → VR ρ (.agg ti.zero) z := by
    intro hf
    obtain ⟨c, rfl⟩ := h7.2 hf
    rw [h5]
    exact .agg (VRs.mkVal ρ c.toList)
  cases hk : ti.k <;> rw [hk] at hag <;> first | exact aggr hag | exact scal hag

theorem fineFr_zero (n : Nat) : fineFr n (0, 0) := fun off _ h => by omega

theorem OR.exact {e : Nat} {cs : List AV} {vs : List Value} (el : TypeId) (x : Bool) (h : VRs ρ cs vs) (he : e = 0) : OR E G ρ e (.cells cs el x) (.cells ⟨vs⟩ el) := by
  subst he
  have := OR.cells (E := E) (G := G) (ρ := ρ) (e := 0) (cs := cs) (el := el) (x := x) vs [] (0, 0) h (fineFr_zero _) (fun _ => ⟨rfl, rfl, rfl⟩) (fun _ _ => by simp)
  simpa using this

/-- a new row of cells, no room behind it -/
theorem newRow_ok (hR : Rel E G ρ st w.heap) {cs : List AV} {vs : List Value} (el : TypeId) (h : VRs ρ cs vs) (x : Bool) :
    ∃ w', (newRow el ⟨vs⟩).run E.P w = .ok ⟨w.heap.size, 0, none⟩ w' ∧ Mv E G ρ st w (addρ ρ st.n w.heap.size 0) (st.new (.cells cs el x)) w' := by
  refine ⟨{ w with heap := w.heap.push (.cells ⟨vs⟩ el) }, by simp [newRow], Mv.new hR (b := .cells ⟨vs⟩ el) rfl ⟨rfl, rfl, rfl⟩ (.exact el x h rfl)⟩

theorem opAlloc_ok (hOK : EOK E) (hR : Rel E G ρ st w.heap) {t : TypeId} :
    OpR E G ρ st w ((do let y ← Instr.alloc t true (.tuple #[]); pure (.value y) : Sem Next).run E.P w) (opAlloc E o T st t) := by
  unfold opAlloc
  split
  · rename_i ti hti
    obtain ⟨z, h1, h2, h3, _⟩ := (hOK.ty _ _ hti).zero_run w
    obtain ⟨w', h4, h5⟩ := newRow_ok hR t (h2 ρ) false
    refine .of_value ⟨_, w', _, ?_, .ptr (addρ_self ρ st.n w.heap.size 0), h5⟩
    simp [Instr.alloc, h1, newVar]
    rw [show z.cells = ⟨z.cells.toList⟩ from rfl, h4]
    simp
  · trivial

theorem opBox_ok (hR : Rel E G ρ st w.heap) (hE : ER ρ T a.tmps) {t : TypeId} {x : Operand} (hx : goodX E.P.globals.size x = true) :
    OpR E G ρ st w ((do let y ← Instr.box t (a.eval x); pure (.value y) : Sem Next).run E.P w) (opBox E o T st t x) := by
  have h1 := VR.evalO hE (fun i hi => hR.glob i hi) hx
  unfold opBox
  split
  · rename_i cs hcs
    obtain ⟨w', h4, h5⟩ := newRow_ok hR t (h1.cells hcs) false
    refine .of_value ⟨_, w', _, ?_, .ptr (addρ_self ρ st.n w.heap.size 0), h5⟩
    simp [Instr.box, newVar]
    rw [show (a.eval x).cells = ⟨(a.eval x).cells.toList⟩ from rfl, h4]
    simp
  · trivial

theorem opNilCheck_ok (hR : Rel E G ρ st w.heap) (hE : ER ρ T a.tmps) {x : Operand} (hop : o.op = .nilCheck x) (hx : goodX E.P.globals.size x = true) :
    OpR E G ρ st w ((execOp a.eval o).run E.P w) (opNilCheck E o T st x) := by
  have h1 := VR.evalO hE (fun i hi => hR.glob i hi) hx
  simp only [execOp, hop]
  unfold opNilCheck
  generalize evalO T x = u at h1 ⊢
  generalize a.eval x = z at h1 ⊢
  cases h1 <;> try trivial
  case ptr h => exact ⟨_, w, ρ, rfl, .ptr h, Mv.refl hR⟩
  case fn h h' => exact ⟨_, w, ρ, rfl, .fn h h', Mv.refl hR⟩
  case yld h => exact ⟨_, w, ρ, rfl, .yld h, Mv.refl hR⟩
  case val =>
    cases z <;> try trivial
    rename_i f _ _
    cases f <;> try trivial
    exact ⟨_, w, ρ, rfl, .val _, Mv.refl hR⟩

theorem opExtract_ok (hR : Rel E G ρ st w.heap) (hE : ER ρ T a.tmps) {x : Operand} {i : Nat} (hx : goodX E.P.globals.size x = true) :
    OpR E G ρ st w ((do let y ← Instr.extract (a.eval x) i; pure (.value y) : Sem Next).run E.P w) (opExtract E o T st x i) := by
  have h1 := VR.evalO hE (fun i hi => hR.glob i hi) hx
  unfold opExtract
  split
  · rename_i vs hp
    rw [hp] at h1
    generalize a.eval x = z at h1
    cases h1 with
    | tup h =>
    split
    · rename_i v hv
      obtain ⟨y, h2, h3⟩ := h.get hv
      refine .of_still hR ⟨y, ?_, h3⟩
      simp [Instr.extract, h2]
    · trivial
  · trivial

theorem run_part {P : Program} {t : TypeId} (h : known P t = true) (cs : List Value) (off : Nat) (w : World) :
    (part t ⟨cs⟩ off).run P w = if isAggT P t then .ok (.agg ⟨(cs.drop off).take (P.cellsOf t)⟩) w else match cs[off]? with | some v => .ok v w | none => .halt (.stuck "part: no such cell") w := by
  simp only [part, Sem.run_bind, run_isAgg' h, Result.andThen_ok, Sem.run_ite, run_sizeOf' h, Sem.run_pure]
  cases isAggT P t with
  | true =>
    simp only [if_true]
    congr 2
    apply Array.ext'
    simp [List.take_drop]
  | false =>
    simp
    split <;> rename_i h' <;> simp [h']

theorem opField_ok (hOK : EOK E) (hR : Rel E G ρ st w.heap) (hE : ER ρ T a.tmps) {t : TypeId} {x : Operand} {f : Nat} (hx : goodX E.P.globals.size x = true) :
    OpR E G ρ st w ((do let y ← Instr.field t (a.eval x) f; pure (.value y) : Sem Next).run E.P w) (opField E o T st t x f) := by
  have h1 := VR.evalO hE (fun i hi => hR.glob i hi) hx
  unfold opField
  split
  · rename_i ti cs hti hp
    rw [hp] at h1
    generalize a.eval x = z at h1
    cases h1 with
    | @agg _ vs hc =>
    obtain ⟨d, hk, hu⟩ := (hOK.ty _ _ hti).run_underlying
    split
    · rename_i fs hfs
      rw [hfs] at hk
      obtain ⟨fields, rfl, rfl, hkn⟩ := hk
      split
      · rename_i fo sz hfo
        obtain ⟨fl, h2, h3, h4, h5⟩ := fieldOf3_map hfo
        have h2' : fields[f]? = some fl := by simpa using h2
        have hmem : fl ∈ fields := Array.mem_of_getElem? h2'
        dsimp only
        split
        · rename_i hl
          refine .of_still hR ⟨.agg ⟨(vs.drop fo).take sz⟩, ?_, .agg ((hc.drop fo).take sz)⟩
          simp [Instr.field, hu, h2', asAgg, run_part (hkn fl hmem), h5, h4, h3]
        · trivial
      · rename_i fo sz hfo
        obtain ⟨fl, h2, h3, h4, h5⟩ := fieldOf3_map hfo
        have h2' : fields[f]? = some fl := by simpa using h2
        have hmem : fl ∈ fields := Array.mem_of_getElem? h2'
        split
        · rename_i v hv
          obtain ⟨y, hy, hvr⟩ := hc.get hv
          refine .of_still hR ⟨y, ?_, hvr⟩
          simp [Instr.field, hu, h2', asAgg, run_part (hkn fl hmem), h5, h3, hy]
        · trivial
      · trivial
    · trivial
  · trivial

theorem opIndex_ok (hOK : EOK E) (hR : Rel E G ρ st w.heap) (hE : ER ρ T a.tmps) (ho : goodOp E.P.globals.size o = true) {t : TypeId} {x ix : Operand} (hop : o.op = .index t x ix) (hx : goodX E.P.globals.size x = true)
    (hix : goodX E.P.globals.size ix = true) : OpR E G ρ st w ((execOp a.eval o).run E.P w) (opIndex E o T st t x ix) := by
  have h1 := VR.evalO hE (fun i hi => hR.glob i hi) hx
  have h2 := VR.evalO hE (fun i hi => hR.glob i hi) hix
  have hpure := aPure_ok hR hE ho
  unfold opIndex
  split
  · rename_i cs hp
    simp only [execOp, hop]
    rw [hp] at h1
    generalize a.eval x = z at h1
    cases h1 with
    | @agg _ vs hc =>
    split
    · rename_i ti i hti hi
      obtain ⟨k, hk⟩ := intOf_ok h2 hi
      rw [hk]
      obtain ⟨d, hd, hu⟩ := (hOK.ty _ _ hti).run_underlying
      split
      · rename_i n es ea htk
        rw [htk] at hd
        obtain ⟨e, rfl, rfl, rfl, hkn⟩ := hd
        split
        · rename_i hb
          split
          · rename_i hag
            split
            · refine .of_still hR ⟨.agg ⟨(vs.drop (i.toNat * E.P.cellsOf e)).take (E.P.cellsOf e)⟩, ?_, .agg ((hc.drop _).take _)⟩
              simp [Instr.index, asIntOf, hu, hb, run_sizeOf' hkn, run_part hkn, hag]
            · trivial
          · rename_i hag
            split
            · rename_i v hv
              obtain ⟨y, hy, hvr⟩ := hc.get hv
              refine .of_still hR ⟨y, ?_, hvr⟩
              simp [Instr.index, asIntOf, hu, hb, run_sizeOf' hkn, run_part hkn, hag, hy]
            · trivial
        · trivial
      · trivial
    · trivial
  · exact hpure

theorem VRs.evalL (hR : Rel E G ρ st w.heap) (hE : ER ρ T a.tmps) : ∀ {xs : List Operand}, (∀ x ∈ xs, goodX E.P.globals.size x = true) → VRs ρ (xs.map (evalO T)) (xs.map a.eval)
  | [], _ => .nil
  | x :: xs, h => .cons (VR.evalO hE (fun i hi => hR.glob i hi) (h x (List.mem_cons_self ..))) (VRs.evalL hR hE fun y hy => h y (List.mem_cons_of_mem _ hy))

theorem opMakeFunc_ok (hR : Rel E G ρ st w.heap) (hE : ER ρ T a.tmps) {f : Fn} {xs ys : Array Operand} (hx : ∀ x ∈ xs, goodX E.P.globals.size x = true) (hy : ∀ x ∈ ys, goodX E.P.globals.size x = true) :
    OpR E G ρ st w ((do let y ← Instr.makeFunc f (xs.map a.eval) (ys.map a.eval); pure (.value y) : Sem Next).run E.P w) (opMakeFunc E o T st f xs ys) := by
  unfold opMakeFunc
  split
  · rename_i g
    refine .of_still hR ⟨.func (.func g) ⟨xs.toList.map a.eval⟩ ⟨ys.toList.map a.eval⟩, ?_, .fn (VRs.evalL hR hE fun x h => hx x (by simpa using h)) (VRs.evalL hR hE fun x h => hy x (by simpa using h))⟩
    simp [Instr.makeFunc]
    constructor <;> (apply Array.ext'; simp)
  · trivial

theorem opMakeInterface_ok (hOK : EOK E) (hR : Rel E G ρ st w.heap) (hE : ER ρ T a.tmps) {t : TypeId} {x : Operand} (hx : goodX E.P.globals.size x = true) :
    OpR E G ρ st w ((do let y ← Instr.makeInterface t (a.eval x); pure (.value y) : Sem Next).run E.P w) (opMakeInterface E o T st t x) := by
  have h1 := VR.evalO hE (fun i hi => hR.glob i hi) hx
  unfold opMakeInterface
  split
  · rename_i ti hti
    obtain ⟨d, hd, hu⟩ := (hOK.ty _ _ hti).run_underlying
    split
    · trivial
    · rename_i hne
      refine .of_still hR ⟨.iface t (a.eval x), ?_, .ifc h1⟩
      simp only [Instr.makeInterface, Sem.run_bind, hu, Result.andThen_ok]
      cases hk : ti.k <;> rw [hk] at hd <;> simp only [KOK] at hd
      · subst hd; rfl
      · obtain ⟨_, rfl, _⟩ := hd; rfl
      · obtain ⟨_, _, _, rfl⟩ := hd; rfl
      · obtain ⟨_, rfl, _⟩ := hd; rfl
      · obtain ⟨_, rfl, _⟩ := hd; rfl
      · obtain ⟨rfl, _⟩ := hd; rfl
      · exact absurd hk hne
      · subst hd; rfl
      · subst hd; rfl
      · cases d <;> first | rfl | exact hd.elim
  · trivial

theorem opPanic_ok (hR : Rel E G ρ st w.heap) (hE : ER ρ T a.tmps) {x : Operand} (hx : goodX E.P.globals.size x = true) :
    OpR E G ρ st w ((do let y ← Instr.panic (a.eval x); pure (.value y) : Sem Next).run E.P w) (opPanic E o T st x) := by
  have h1 := VR.evalO hE (fun i hi => hR.glob i hi) hx
  unfold opPanic
  generalize a.eval x = z at h1
  split <;> rename_i hp <;> first | trivial | (rw [hp] at h1)
  · cases h1 with | ifc h => exact ⟨rfl, _, by simp [Instr.panic], .ifc h⟩
  · cases h1; exact ⟨rfl, _, by simp [Instr.panic], .val _⟩
end
end Ev
end

section
namespace Ev
open Go

section
variable {E : Env} {G : Good} {ρ : Rho} {st : St} {w : World} {T : Tr AV} {a : Act} {o : Oper}

/-! ### numbers -/
theorem fastWrap_eq (n : Int) : fastWrap n = IntKind.i64.wrap n := by
  cases n with
  | ofNat m =>
    show @Bool.rec (fun _ => Int) (IntKind.i64.wrap (Int.ofNat m)) (Int.ofNat m) (Nat.blt m 9223372036854775808) = _
    cases h : Nat.blt m 9223372036854775808 with
    | false => rfl
    | true =>
      have : m < 9223372036854775808 := by simpa [Nat.blt_eq] using h
      show Int.ofNat m = (if (true && decide (Int.ofNat m % 18446744073709551616 ≥ 9223372036854775808)) = true then Int.ofNat m % 18446744073709551616 - 18446744073709551616 else Int.ofNat m % 18446744073709551616)
      have e : Int.ofNat m % 18446744073709551616 = Int.ofNat m := by
        apply Int.emod_eq_of_lt <;> (simp; try omega)
      rw [e]
      simp
      intro h'
      omega
  | negSucc m =>
    show @Bool.rec (fun _ => Int) (IntKind.i64.wrap (Int.negSucc m)) (Int.negSucc m) (Nat.blt m 9223372036854775808) = _
    cases h : Nat.blt m 9223372036854775808 with
    | false => rfl
    | true =>
      have : m < 9223372036854775808 := by simpa [Nat.blt_eq] using h
      show Int.negSucc m = (if (true && decide (Int.negSucc m % 18446744073709551616 ≥ 9223372036854775808)) = true then Int.negSucc m % 18446744073709551616 - 18446744073709551616 else Int.negSucc m % 18446744073709551616)
      have e : Int.negSucc m % 18446744073709551616 = Int.negSucc m + 18446744073709551616 := by
        rw [← Int.add_emod_right (Int.negSucc m) 18446744073709551616]
        apply Int.emod_eq_of_lt <;> omega
      rw [e]
      have : Int.negSucc m + 18446744073709551616 ≥ 9223372036854775808 := by omega
      simp [this]

theorem bltI_eq (a b : Int) : bltI a b = decide (a < b) := by
  cases a <;> cases b
  · rename_i x y
    show Nat.blt x y = _
    rw [Bool.eq_iff_iff]; simp [Nat.blt_eq]
  · rename_i x y
    show false = _
    rw [Bool.eq_iff_iff]; simp; omega
  · rename_i x y
    show true = _
    rw [Bool.eq_iff_iff]; simp; omega
  · rename_i x y
    show Nat.blt y x = _
    rw [Bool.eq_iff_iff]; simp [Nat.blt_eq]; omega

theorem beqI_eq (a b : Int) : beqI a b = (a == b) := by
  cases a <;> cases b
  · rename_i x y
    show Nat.beq x y = _
    rw [Bool.eq_iff_iff]; simp; omega
  · rename_i x y
    show false = _
    rw [Bool.eq_iff_iff]; simp
  · rename_i x y
    show false = _
    rw [Bool.eq_iff_iff]; simp
  · rename_i x y
    show Nat.beq x y = _
    rw [Bool.eq_iff_iff]; simp

theorem eqGuard_int (op : BinOp) (t : TypeId) (x y : Operand) (k q : IntKind) (m n : Int) (w : World) : (eqGuard op t x y (.int k m) (.int q n)).run E.P w = .ok () w := by
  unfold eqGuard
  cases op <;> rfl

theorem contBin_top (T : Tr AV) : contBin E o T st .top = aPure E o T st := rfl
theorem contBin_num (T : Tr AV) (n : Int) : contBin E o T st (.num n) = .val (.num n) st := rfl
theorem contBin_bool (T : Tr AV) (b : Bool) : contBin E o T st (.bool b) = .val (.bool b) st := rfl

theorem contBin_ok (hR : Rel E G ρ st w.heap) (hE : ER ρ T a.tmps) (ho : goodOp E.P.globals.size o = true) {op : BinOp} {t yt : TypeId} {x y : Operand} (hop : o.op = .binOp op t x y yt)
    {m n : Int} (hm : a.eval x = .int .i64 m) (hn : a.eval y = .int .i64 n) : OpR E G ρ st w ((execOp a.eval o).run E.P w) (contBin E o T st (binI op m n)) := by
  have hpure := aPure_ok hR hE ho
  have hrun : (execOp a.eval o).run E.P w = ((binOp op t (.int .i64 m) (.int .i64 n)).run E.P w).andThen fun v w' => .ok (.value v) w' := by
    simp only [execOp, hop, hm, hn, Sem.run_bind, eqGuard_int, Result.andThen_ok, Sem.run_pure]
  have num : ∀ z, (binOp op t (.int .i64 m) (.int .i64 n)).run E.P w = .ok (.int .i64 z) w → OpR E G ρ st w ((execOp a.eval o).run E.P w) (.val (.num z) st) := by
    intro z hz
    exact ⟨_, w, ρ, by rw [hrun, hz]; rfl, .num z, Mv.refl hR⟩
  have bool : ∀ z, (binOp op t (.int .i64 m) (.int .i64 n)).run E.P w = .ok (.bool z) w → OpR E G ρ st w ((execOp a.eval o).run E.P w) (.val (.bool z) st) := by
    intro z hz
    exact ⟨_, w, ρ, by rw [hrun, hz]; rfl, .bool z, Mv.refl hR⟩
  cases op
  case add => exact num _ (by rw [fastWrap_eq]; rfl)
  case sub => exact num _ (by rw [fastWrap_eq]; rfl)
  case mul => exact num _ (by rw [fastWrap_eq]; rfl)
  case quo =>
    show OpR E G ρ st w _ (contBin E o T st (@Bool.rec (fun _ => AV) (.num (fastWrap (Int.tdiv m n))) .top (beqI n 0)))
    cases h : beqI n 0 with
    | true => exact hpure
    | false =>
      rw [beqI_eq] at h
      have hne : n ≠ 0 := by simpa using h
      exact num _ (by rw [fastWrap_eq]; simp [binOp, Op.intDiv, hne])
  case rem =>
    show OpR E G ρ st w _ (contBin E o T st (@Bool.rec (fun _ => AV) (.num (Int.tmod m n)) .top (beqI n 0)))
    cases h : beqI n 0 with
    | true => exact hpure
    | false =>
      rw [beqI_eq] at h
      have hne : n ≠ 0 := by simpa using h
      exact num _ (by simp [binOp, Op.intDiv, hne])
  case eql => exact bool _ (by rw [beqI_eq]; rfl)
  case neq => exact bool _ (by rw [beqI_eq]; rfl)
  case lss => exact bool _ (by rw [bltI_eq]; rfl)
  case leq => exact bool _ (by rw [bltI_eq]; simp [binOp, Op.intCmp]; rw [Bool.eq_iff_iff]; simp)
  case gtr => exact bool _ (by rw [bltI_eq]; simp [binOp, Op.intCmp])
  case geq => exact bool _ (by rw [bltI_eq]; simp [binOp, Op.intCmp]; rw [Bool.eq_iff_iff]; simp)
  all_goals exact hpure

/-! ### equality where addresses are in play -/
theorem addrEq_ok (hR : Rel E G ρ st w.heap) {i p j q b c e e' : Nat} (hi : ρ i = some (b, e)) (hj : ρ j = some (c, e')) {r : Bool} (h : addrEq st i p j q = some r) :
    (sameAddr ⟨b, p, none⟩ ⟨c, q, none⟩).run E.P w = .ok r w := by
  unfold addrEq at h
  split at h
  · rename_i hb
    have := Nat.eq_of_beq_eq_true hb
    subst this
    rw [hi] at hj
    injection hj with hj
    injection hj with h1 h2
    subst h1
    cases h
    simp only [sameAddr, beq_self_eq_true, if_true, Sem.run_pure]
    congr 1
    rw [Bool.eq_iff_iff]
    simp
  · rename_i hb
    have hne : i ≠ j := Nat.ne_of_beq_eq_false hb
    have live_of : ∀ k, isExt st k = some false → ∃ cs el, st.h.get k = some (.cells cs el false) := by
      intro k hk
      unfold isExt at hk
      split at hk
      · rename_i cs el x hg; cases hk; exact ⟨cs, el, hg⟩
      · cases hk
    split at h
    · rename_i hxi
      split at h
      · rename_i hxj
        cases h
        obtain ⟨cs, el, hg⟩ := live_of i hxi
        obtain ⟨cs', el', hg'⟩ := live_of j hxj
        obtain ⟨vs, rest, fr, h1, _, _, h2, _⟩ := rel_cells hR hi hg
        obtain ⟨vs', rest', fr', h1', _, _, h2', _⟩ := rel_cells hR hj hg'
        obtain ⟨hr1, _, hf1⟩ := h2 rfl
        obtain ⟨hr2, _, hf2⟩ := h2' rfl
        subst hr1; subst hr2; subst hf1; subst hf2
        have hbc : b ≠ c := fun hbc => hne (hR.inj i j b e e' ⟨_, hg⟩ ⟨_, hg'⟩ hi (hbc ▸ hj))
        have hbc' : (b == c) = false := by simpa using hbc
        simp [sameAddr, hbc', World.frozen?, h1, h1', noView, viewAt, World.shape?, mayBeOne, stringish]
      · cases h
    · cases h

theorem aEqK_ok (hR : Rel E G ρ st w.heap) {t : TypeId} {d : TypeDesc} {k : TK} (hd : KOK E.P d k) (hu : ∀ w, (underlying t).run E.P w = .ok d w) {u v : AV} {x y : Value} (hx : VR ρ u x) (hy : VR ρ v y) {r : Bool}
    (h : aEqK k u v st = some r) (n : Nat) : (Op.equalIn (n + 1) t x y).run E.P w = .ok r w ∧ ¬ (x = .nilIface ∧ y = .nilIface) ∧ ¬ ((∃ c, x = .agg c) ∧ ∃ c, y = .agg c) := by
  unfold aEqK at h
  split at h
  · -- pointers
    obtain ⟨e, rfl, rfl, hkn⟩ := hd
    split at h
    · split at h
      · cases h
      · rename_i hz
        have hz' := Nat.ne_of_beq_eq_false hz
        cases hx with | ptr hi =>
        cases hy with | ptr hj =>
        have := addrEq_ok hR hi hj h
        refine ⟨?_, by simp, by simp⟩
        simp only [Op.equalIn, Sem.run_bind, hu, Result.andThen_ok, run_sizeOf' hkn, Sem.run_ite]
        simp only [ne_eq, hz', not_false_eq_true, if_true]
        exact this
    · cases h; cases hx with | ptr hi =>
      cases hy
      refine ⟨?_, by simp, by simp⟩
      simp [Op.equalIn, hu]
    · cases h; cases hy with | ptr hi =>
      cases hx
      refine ⟨?_, by simp, by simp⟩
      simp [Op.equalIn, hu]
    · cases h
  · obtain ⟨rfl, _⟩ := hd
    split at h
    · cases h; cases hx with | sl hi =>
      cases hy
      exact ⟨by simp [Op.equalIn, hu], by simp, by simp⟩
    · cases h; cases hy with | sl hi =>
      cases hx
      exact ⟨by simp [Op.equalIn, hu], by simp, by simp⟩
    · cases h; cases hx; cases hy
      exact ⟨by simp [Op.equalIn, hu], by simp, by simp⟩
    · cases h; cases hx; cases hy
      exact ⟨by simp [Op.equalIn, hu], by simp, by simp⟩
    · cases h
  · cases hd
    split at h
    · cases h; cases hx with | mp hi =>
      cases hy
      exact ⟨by simp [Op.equalIn, hu], by simp, by simp⟩
    · cases h; cases hy with | mp hi =>
      cases hx
      exact ⟨by simp [Op.equalIn, hu], by simp, by simp⟩
    · cases h
  · obtain ⟨_, _, _, rfl⟩ := hd
    split at h
    · cases h; cases hx; cases hy
      exact ⟨by simp [Op.equalIn, hu], by simp, by simp⟩
    · cases h; cases hx; cases hy
      exact ⟨by simp [Op.equalIn, hu], by simp, by simp⟩
    · cases h; cases hx; cases hy
      exact ⟨by simp [Op.equalIn, hu], by simp, by simp⟩
    · cases h; cases hx; cases hy
      exact ⟨by simp [Op.equalIn, hu], by simp, by simp⟩
    · cases h
  · obtain ⟨_, rfl⟩ := hd
    split at h
    · cases h; cases hx; cases hy
      exact ⟨by simp [Op.equalIn, hu], by simp, by simp⟩
    · cases h; cases hx; cases hy
      exact ⟨by simp [Op.equalIn, hu], by simp, by simp⟩
    · split at h
      · cases h
      · rename_i hne
        have hne' := Nat.ne_of_beq_eq_false hne
        cases h; cases hx; cases hy
        exact ⟨by simp [Op.equalIn, hu, hne'], by simp, by simp⟩
    · cases h
  · cases h

theorem eqGuard_other {op : BinOp} {t : TypeId} {x y : Operand} {u v : Value} (h1 : ¬ (u = .nilIface ∧ v = .nilIface)) (h2 : ¬ ((∃ c, u = .agg c) ∧ ∃ c, v = .agg c)) (w : World) :
    (eqGuard op t x y u v).run E.P w = .ok () w := by
  unfold eqGuard
  cases op <;> first
    | rfl
    | (cases u <;> first
        | rfl
        | (cases v <;> first | rfl | exact absurd ⟨rfl, rfl⟩ h1 | exact absurd ⟨⟨_, rfl⟩, ⟨_, rfl⟩⟩ h2))

theorem binOp_eql {t : TypeId} {x y : Value} {r : Bool} (h : (Op.equal t x y).run E.P w = .ok r w) (hi : ¬ ∃ k m q n, x = .int k m ∧ y = .int q n) (hs : ¬ ∃ m n, x = .string m ∧ y = .string n)
    (hf : ¬ ∃ k m, x = .float k m) (hc : ¬ ∃ k m n, x = .complex k m n) :
    (binOp .eql t x y).run E.P w = .ok (.bool r) w ∧ (binOp .neq t x y).run E.P w = .ok (.bool !r) w := by
  constructor
  · unfold binOp
    split <;> simp_all
  · unfold binOp
    split <;> simp_all

theorem aBinV_ok (hOK : EOK E) (hR : Rel E G ρ st w.heap) (hE : ER ρ T a.tmps) (ho : goodOp E.P.globals.size o = true) {op : BinOp} {t yt : TypeId} {x y : Operand} (hop : o.op = .binOp op t x y yt)
    {u v : AV} (hx : VR ρ u (a.eval x)) (hy : VR ρ v (a.eval y)) : OpR E G ρ st w ((execOp a.eval o).run E.P w) (aBinV E o op t u v T st) := by
  have hpure := aPure_ok hR hE ho
  have main : ∀ r, aEq E t u v st = some r → (execOp a.eval o).run E.P w = ((binOp op t (a.eval x) (a.eval y)).run E.P w).andThen (fun v w' => .ok (.value v) w') ∧
      (binOp .eql t (a.eval x) (a.eval y)).run E.P w = .ok (.bool r) w ∧ (binOp .neq t (a.eval x) (a.eval y)).run E.P w = .ok (.bool !r) w := by
    intro r hr
    unfold aEq at hr
    split at hr
    · rename_i ti hti
      obtain ⟨d, hd, hu⟩ := (hOK.ty _ _ hti).run_underlying
      obtain ⟨h1, h2, h3⟩ := aEqK_ok hR hd hu hx hy hr 9999
      refine ⟨?_, binOp_eql h1 ?_ ?_ ?_ ?_⟩
      · simp only [execOp, hop, Sem.run_bind, eqGuard_other h2 h3, Result.andThen_ok, Sem.run_pure]
      all_goals
        intro hcon
        unfold aEqK at hr
        generalize a.eval x = X at hx hcon
        generalize a.eval y = Y at hy hcon
        split at hr <;> (try (split at hr)) <;> first | (cases hr; done) | skip
        all_goals first | (cases hx <;> cases hy <;> simp at hcon; done) | (split at hr <;> first | (cases hr; done) | (cases hx <;> cases hy <;> simp at hcon; done))
    · cases hr
  unfold aBinV
  split
  · split
    · rename_i r hr
      obtain ⟨h1, h2, _⟩ := main r hr
      exact ⟨_, w, ρ, by rw [h1, h2]; rfl, .bool r, Mv.refl hR⟩
    · exact hpure
  · split
    · rename_i r hr
      obtain ⟨h1, _, h2⟩ := main r hr
      exact ⟨_, w, ρ, by rw [h1, h2]; rfl, .bool _, Mv.refl hR⟩
    · exact hpure
  · exact hpure

theorem opBinOp_ok (hOK : EOK E) (hR : Rel E G ρ st w.heap) (hE : ER ρ T a.tmps) (ho : goodOp E.P.globals.size o = true) {op : BinOp} {t yt : TypeId} {x y : Operand} (hop : o.op = .binOp op t x y yt)
    (hgx : goodX E.P.globals.size x = true) (hgy : goodX E.P.globals.size y = true) : OpR E G ρ st w ((execOp a.eval o).run E.P w) (opBinOp E o T st op t x y yt) := by
  have hpure := aPure_ok hR hE ho
  have h1 := VR.evalO hE (fun i hi => hR.glob i hi) hgx
  have h2 := VR.evalO hE (fun i hi => hR.glob i hi) hgy
  have hv := fun (u v : AV) (hx : VR ρ u (a.eval x)) (hy : VR ρ v (a.eval y)) => aBinV_ok hOK hR hE ho hop hx hy
  unfold opBinOp
  generalize evalO T x = u at h1 ⊢
  generalize evalO T y = v at h2 ⊢
  cases u <;> try exact hv _ _ h1 h2
  · trivial
  · rename_i m
    show OpR E G ρ st w _ (aBin2 E o op m v T st)
    cases v <;> try trivial
    · rename_i n
      cases hm : a.eval x <;> rw [hm] at h1 <;> cases h1
      cases hn : a.eval y <;> rw [hn] at h2 <;> cases h2
      exact contBin_ok hR hE ho hop hm hn

theorem opUn_ok (hR : Rel E G ρ st w.heap) (hE : ER ρ T a.tmps) (ho : goodOp E.P.globals.size o = true) {op : UnOp} {t : TypeId} {x : Operand} (hop : o.op = .unOp op t x)
    (hgx : goodX E.P.globals.size x = true) : OpR E G ρ st w ((execOp a.eval o).run E.P w) (opUn E o T st op x) := by
  have hpure := aPure_ok hR hE ho
  have h1 := VR.evalO hE (fun i hi => hR.glob i hi) hgx
  unfold opUn
  split
  · split
    · rename_i n hn
      rw [hn] at h1
      cases hm : a.eval x <;> rw [hm] at h1 <;> cases h1
      refine ⟨_, w, ρ, ?_, .num _, Mv.refl hR⟩
      rw [fastWrap_eq]
      simp only [execOp, hop, hm, Op.unary, Op.intArith, Sem.run_bind, Sem.run_pure, Result.andThen_ok]
      rfl
    · exact hpure
  · split
    · rename_i n hn
      rw [hn] at h1
      cases hm : a.eval x <;> rw [hm] at h1 <;> cases h1
      refine ⟨_, w, ρ, ?_, .bool _, Mv.refl hR⟩
      simp [execOp, hop, hm, Op.unary]
    · exact hpure
  · exact hpure
end
end Ev
end

section
namespace Ev
open Go

section
variable {E : Env} {G : Good} {ρ : Rho} {st : St} {w : World} {T : Tr AV} {a : Act} {o : Oper}

theorem foldl_put (off : Nat) : ∀ (vs : List Value) (k : Nat) (cs : Array Value), off + k + vs.length ≤ cs.size →
    ((vs.zipIdx k).foldl (fun (cs : Array Value) (p : Value × Nat) => cs.setIfInBounds (off + p.2) p.1) cs).toList = cs.toList.take (off + k) ++ vs ++ cs.toList.drop (off + k + vs.length)
  | [], k, cs, _ => by simp
  | v :: vs, k, cs, h => by
    simp at h
    simp only [List.zipIdx_cons, List.foldl_cons]
    rw [foldl_put off vs (k + 1) (cs.setIfInBounds (off + k) v) (by simp; omega)]
    have hlt : off + k < cs.toList.length := by simp; omega
    obtain ⟨l⟩ := cs
    simp only [Array.toList_setIfInBounds] at hlt ⊢
    apply List.ext_getElem?
    intro j
    simp only [List.getElem?_append, List.length_take, List.length_append, List.length_cons, List.getElem?_take, List.getElem?_drop, List.length_set, List.getElem?_set]
    have e1 : min (off + (k + 1)) l.length = off + k + 1 := by omega
    have e2 : min (off + k) l.length = off + k := by omega
    rw [e1, e2]
    by_cases hj : j < off + k
    · have h1 : j < off + k + 1 := by omega
      have h2 : j < off + k + 1 + vs.length := by omega
      have h3 : j < off + k + (vs.length + 1) := by omega
      have h4 : j < off + (k + 1) := by omega
      have h5 : off + k ≠ j := by omega
      simp [hj, h1, h2, h3, h4, h5]
    · by_cases hj2 : j = off + k
      · subst hj2
        have h2 : off + k < off + k + 1 + vs.length := by omega
        have h4 : off + k < off + (k + 1) := by omega
        simp [h2, h4, hlt]
      · obtain ⟨m, rfl⟩ : ∃ m, j = off + k + 1 + m := ⟨j - (off + k + 1), by omega⟩
        have h1 : ¬ off + k + 1 + m < off + k + 1 := by omega
        have e3 : off + k + 1 + m - (off + k) = m + 1 := by omega
        have e4 : off + k + 1 + m - (off + k + 1) = m := by omega
        by_cases hm : m < vs.length
        · have h6 : off + k + 1 + m < off + k + 1 + vs.length := by omega
          have h7 : off + k + 1 + m < off + k + (vs.length + 1) := by omega
          simp [h1, hj, e3, e4, hm, h6, h7]
        · have h7 : ¬ (off + k + 1 + m < off + k + 1 + vs.length) := by omega
          have h8 : ¬ (off + k + 1 + m < off + k + (vs.length + 1)) := by omega
          have e5 : off + (k + 1) + vs.length + (off + k + 1 + m - (off + k + 1 + vs.length)) = off + k + 1 + m := by omega
          have e6 : off + k + (vs.length + 1) + (off + k + 1 + m - (off + k + (vs.length + 1))) = off + k + 1 + m := by omega
          have h9 : off + k ≠ off + k + 1 + m := by omega
          simp [h7, h8, e5, e6, h9]

/-- parts of a literal -/
def PR (ρ : Rho) : List (Nat × AV) → List (Nat × Value) → Prop
  | [], [] => True
  | p :: ps, q :: qs => (p.1 = q.1 ∧ VR ρ p.2 q.2) ∧ PR ρ ps qs
  | _, _ => False

theorem fill_ok {place : Nat → Option (Nat × Nat)} {place' : Nat → Option (Nat × Nat)} (hp : ∀ i os, place i = some os → place' i = some os) : ∀ {ps : List (Nat × AV)} {qs : List (Nat × Value)} {cs cs' : List AV} {vs : Array Value},
    PR ρ ps qs → VRs ρ cs vs.toList → aFill place cs ps = some cs' → ∃ vs', Instr.fill place' vs qs = some vs' ∧ VRs ρ cs' vs'.toList
  | [], [], cs, cs', vs, _, hv, h => by simp only [aFill] at h; cases h; exact ⟨vs, rfl, hv⟩
  | [], _ :: _, _, _, _, h, _, _ => h.elim
  | _ :: _, [], _, _, _, h, _, _ => h.elim
  | p :: ps, (i, x) :: qs, cs, cs', vs, hpr, hv, h => by
    obtain ⟨⟨h1, h2⟩, h3⟩ := hpr
    simp only [aFill] at h
    split at h
    · cases h
    · rename_i os hos
      split at h
      · rename_i us hus
        split at h
        · rename_i hb
          have hlen := Nat.eq_of_beq_eq_true hb
          split at h
          · cases h
          · rename_i u us'
            split at h
            · rename_i cs1 hput
              have hx := h2.cells hus
              obtain ⟨off, sz⟩ := os
              rcases hv.put hx hput with ⟨h4, h5⟩ | ⟨h4, _⟩
              · have hl : x.cells.size = sz := by
                  have := hx.length
                  simp at this hlen ⊢
                  omega
                have hpl := hp _ _ hos
                rw [show p.1 = i from h1] at hpl
                have hlt : off + x.cells.size ≤ vs.size := by simpa using h5
                have hfold : (x.cells.zipIdx.foldl (fun (cs : Array Value) (p : Value × Nat) => cs.setIfInBounds (off + p.2) p.1) vs).toList =
                    vs.toList.take off ++ x.cells.toList ++ vs.toList.drop (off + x.cells.toList.length) := by
                  rw [← Array.foldl_toList, Array.toList_zipIdx]
                  have := foldl_put off x.cells.toList 0 vs (by simpa using hlt)
                  simpa using this
                obtain ⟨vs', h6, h7⟩ := fill_ok hp (vs := x.cells.zipIdx.foldl (fun (cs : Array Value) (p : Value × Nat) => cs.setIfInBounds (off + p.2) p.1) vs) h3 (by rw [hfold]; exact h4) h
                refine ⟨vs', ?_, h7⟩
                simp only [Instr.fill, hpl]
                rw [if_neg (by simp [hl]; omega)]
                exact h6
              · cases h4
            · cases h
        · cases h
      · cases h

theorem PR.eval (hR : Rel E G ρ st w.heap) (hE : ER ρ T a.tmps) : ∀ {ps : List (Nat × Operand)}, (∀ p ∈ ps, goodX E.P.globals.size p.2 = true) → PR ρ (ps.map fun (i, x) => (i, evalO T x)) (ps.map fun (i, x) => (i, a.eval x))
  | [], _ => trivial
  | (i, x) :: ps, h => ⟨⟨rfl, VR.evalO hE (fun i hi => hR.glob i hi) (h _ (List.mem_cons_self ..))⟩, PR.eval hR hE fun p hp => h p (List.mem_cons_of_mem _ hp)⟩

theorem run_mapM_list {P : Program} {α β : Type} (f : α → Sem β) (g : α → β) (w : World) : ∀ (l : List α), (∀ x ∈ l, (f x).run P w = .ok (g x) w) → (l.mapM f).run P w = .ok (l.map g) w
  | [], _ => by simp
  | x :: l, h => by
    simp [List.mapM_cons, h x (List.mem_cons_self ..), run_mapM_list f g w l (fun y hy => h y (List.mem_cons_of_mem _ hy))]

theorem run_mapM_array {P : Program} {α β : Type} (f : α → Sem β) (g : α → β) (w : World) (l : Array α) (h : ∀ x ∈ l, (f x).run P w = .ok (g x) w) : (l.mapM f).run P w = .ok (l.map g) w := by
  rw [Array.mapM_eq_mapM_toList]
  simp [run_mapM_list f g w l.toList (fun x hx => h x (by simpa using hx))]
  apply Array.ext'
  simp

theorem opBuild_ok (hOK : EOK E) (hR : Rel E G ρ st w.heap) (hE : ER ρ T a.tmps) {t : TypeId} {parts : Array (Nat × Operand)} (hg : ∀ p ∈ parts, goodX E.P.globals.size p.2 = true) :
    OpR E G ρ st w ((do let y ← Instr.build t (parts.map fun (i, x) => (i, a.eval x)); pure (.value y) : Sem Next).run E.P w) (opBuild E o T st t parts) := by
  unfold opBuild
  split
  · rename_i v hv
    unfold aBuild at hv
    split at hv
    · rename_i ti hti
      obtain ⟨d, hd, hu⟩ := (hOK.ty _ _ hti).run_underlying
      obtain ⟨z, hz, hzv, hzs, _⟩ := (hOK.ty _ _ hti).zero_run w
      have hpr := PR.eval hR hE (ps := parts.toList) (fun p hp => hg p (by simpa using hp))
      split at hv
      · rename_i fs hk
        rw [hk] at hd
        obtain ⟨fields, rfl, rfl, hkn⟩ := hd
        cases hf : aFill (fieldOf (fields.toList.map fun f => (f.offset, E.P.cellsOf f.type, isAggT E.P f.type))) ti.zero (parts.toList.map fun (i, x) => (i, evalO T x)) with
        | none => simp [hf] at hv
        | some cs =>
          simp [hf] at hv
          subst hv
          obtain ⟨vs, h1, h2⟩ := fill_ok (place' := fun i => (fields.map fun f => (f.offset, E.P.cellsOf f.type))[i]?) (vs := z.cells) (by
            intro i os hos
            obtain ⟨fo, sz⟩ := os
            obtain ⟨f, h1, h2, h3⟩ := fieldOf_map hos
            have h1' : fields[i]? = some f := by simpa using h1
            simp [h1', h2, h3]) hpr (hzv ρ) hf
          refine .of_still hR ⟨.agg vs, ?_, .agg h2⟩
          have hm := run_mapM_array (P := E.P) (fun f : Field => do pure (f.offset, ← Go.sizeOf f.type)) (fun f => (f.offset, E.P.cellsOf f.type)) w fields (fun f hf => by simp [run_sizeOf' (hkn f hf)])
          simp only [Instr.build, Sem.run_bind, hz, Result.andThen_ok, hu, hm, Array.toList_map]
          simp only [h1, Sem.run_pure]
      · rename_i n es ea hk
        rw [hk] at hd
        obtain ⟨e, rfl, rfl, _, hkn⟩ := hd
        cases hf : aFill (fun i => some (i * E.P.cellsOf e, E.P.cellsOf e)) ti.zero (parts.toList.map fun (i, x) => (i, evalO T x)) with
        | none => simp [hf] at hv
        | some cs =>
          simp [hf] at hv
          subst hv
          obtain ⟨vs, h1, h2⟩ := fill_ok (place' := fun i => some (i * E.P.cellsOf e, E.P.cellsOf e)) (vs := z.cells) (fun i os h => h) hpr (hzv ρ) hf
          refine .of_still hR ⟨.agg vs, ?_, .agg h2⟩
          simp only [Instr.build, Sem.run_bind, hz, Result.andThen_ok, hu, run_sizeOf' hkn, Array.toList_map]
          simp only [h1, Sem.run_pure]
      · cases hv
    · cases hv
  · trivial

theorem repZero_ok {zs : List AV} {z : List Value} (h : VRs ρ zs z) : ∀ n, VRs ρ (repZero zs n) ((List.range (n * z.length)).map fun i => z[i % z.length]!)
  | 0 => by simp [repZero]; exact .nil
  | n + 1 => by
    rw [repZero, show (n + 1) * z.length = z.length + n * z.length by rw [Nat.add_mul]; omega, List.range_add, List.map_append]
    refine VRs.append ?_ ?_
    · have : (List.range z.length).map (fun i => z[i % z.length]!) = z := by
        apply List.ext_getElem?
        intro i
        by_cases hi : i < z.length
        · simp [hi, Nat.mod_eq_of_lt hi]
        · simp [hi, List.getElem?_eq_none (Nat.le_of_not_lt hi)]
      rw [this]; exact h
    · have : (List.map (fun x => z.length + x) (List.range (n * z.length))).map (fun i => z[i % z.length]!) = (List.range (n * z.length)).map fun i => z[i % z.length]! := by
        rw [List.map_map]
        apply List.map_congr_left
        intro i _
        simp
      rw [this]; exact repZero_ok h n

theorem rep_arr (z : Array Value) (n : Nat) : ((Array.range n).map fun i => z[i % z.size]!).toList = (List.range n).map fun i => z.toList[i % z.toList.length]! := by
  simp [getElem!_def]

theorem wrap_small {n : Int} (h0 : 0 ≤ n) (h : n < 9223372036854775808) : IntKind.i64.wrap n = n := by
  show (if (true && decide (n % 18446744073709551616 ≥ 9223372036854775808)) = true then n % 18446744073709551616 - 18446744073709551616 else n % 18446744073709551616) = n
  have e : n % 18446744073709551616 = n := Int.emod_eq_of_lt h0 (by omega)
  rw [e]
  have : ¬ n ≥ 9223372036854775808 := by omega
  simp [this]

theorem opBuildSlice_ok (hOK : EOK E) (hR : Rel E G ρ st w.heap) (hE : ER ρ T a.tmps) {t : TypeId} {len : Nat} {parts : Array (Nat × Operand)} (hg : ∀ p ∈ parts, goodX E.P.globals.size p.2 = true) :
    OpR E G ρ st w ((do let y ← Instr.buildSlice t len (parts.map fun (i, x) => (i, a.eval x)); pure (.value y) : Sem Next).run E.P w) (opBuildSlice E o T st t len parts) := by
  unfold opBuildSlice
  split
  · rename_i cs e hv
    unfold aBuildSlice at hv
    split at hv
    · rename_i ti hti
      obtain ⟨d, hd, hu⟩ := (hOK.ty _ _ hti).run_underlying
      have hpr := PR.eval hR hE (ps := parts.toList) (fun p hp => hg p (by simpa using hp))
      split at hv
      · rename_i el es by_ hk
        rw [hk] at hd
        obtain ⟨rfl, rfl, _, hkn⟩ := hd
        split at hv
        · cases hv
        · rename_i hle
          split at hv
          · rename_i te hte
            split at hv
            · rename_i cs' hf
              obtain ⟨rfl, rfl⟩ : cs' = cs ∧ el = e := by simpa using hv
              have hel := hOK.ty _ _ hte
              obtain ⟨z, hz, hzv, hzs, _⟩ := hel.zero_run w
              have hsz : E.P.cellsOf el = z.cells.size := by rw [hel.size, hzs]
              have hrep := repZero_ok (hzv ρ) len
              obtain ⟨vs, h1, h2⟩ := fill_ok (place' := fun i => some (i * E.P.cellsOf el, E.P.cellsOf el)) (vs := (Array.range (len * E.P.cellsOf el)).map fun i => z.cells[i % z.cells.size]!)
                (fun i os h => h) hpr (by rw [rep_arr, hsz]; simpa using hrep) hf
              obtain ⟨w', h4, h5⟩ := newRow_ok hR el h2 false
              refine .of_value ⟨.slice (some ⟨w.heap.size, 0, none⟩) len len, w', _, ?_, .sl (addρ_self ρ st.n w.heap.size 0), h5⟩
              have h1' : Instr.fill (fun i => some (i * E.P.cellsOf el, E.P.cellsOf el)) ((Array.range (len * E.P.cellsOf el)).map fun i => z.cells[i % z.cells.size]!) (parts.map fun (i, x) => (i, a.eval x)).toList = some vs := by
                rw [Array.toList_map]; exact h1
              simp only [Instr.buildSlice, Sem.run_bind, hu, Result.andThen_ok, run_sizeOf' hkn, Sem.run_ite, hle, if_false, Sem.run_pure]
              by_cases h0 : len * E.P.cellsOf el = 0
              · simp only [h0, if_true, Result.andThen_ok]
                rw [h0] at h1'
                have e0 : ∀ (f : Nat → Value), (Array.range 0).map f = #[] := fun f => by simp
                rw [e0] at h1' ⊢
                simp only [h1', Sem.run_bind]
                rw [show vs = ⟨vs.toList⟩ from rfl, h4]
                rfl
              · simp only [h0, if_false, Sem.run_bind, hz, Result.andThen_ok, Sem.run_pure, h1']
                rw [show vs = ⟨vs.toList⟩ from rfl, h4]
                rfl
            · cases hv
          · cases hv
      · cases hv
    · cases hv
  · trivial

theorem opMakeSlice_ok (hOK : EOK E) (hR : Rel E G ρ st w.heap) (hE : ER ρ T a.tmps) {t : TypeId} {x y : Operand} (hx : goodX E.P.globals.size x = true) (hy : goodX E.P.globals.size y = true) :
    OpR E G ρ st w ((do let y ← Instr.makeSlice t (a.eval x) (a.eval y); pure (.value y) : Sem Next).run E.P w) (opMakeSlice E o T st t x y) := by
  have h1 := VR.evalO hE (fun i hi => hR.glob i hi) hx
  have h2 := VR.evalO hE (fun i hi => hR.glob i hi) hy
  unfold opMakeSlice
  split
  · rename_i v s' hv
    unfold aMakeSlice at hv
    split at hv
    · rename_i ti l c hti hl hc
      obtain ⟨k1, e1⟩ := intOf_ok h1 hl
      obtain ⟨k2, e2⟩ := intOf_ok h2 hc
      rw [e1, e2]
      obtain ⟨d, hd, hu⟩ := (hOK.ty _ _ hti).run_underlying
      split at hv
      · rename_i el es bytes hk
        rw [hk] at hd
        obtain ⟨rfl, rfl, rfl, hkn⟩ := hd
        split at hv
        · rename_i hb
          obtain ⟨hl0, hlc, hcb, hc40⟩ := hb
          split at hv
          · rename_i te hte
            cases hv
            have hel := hOK.ty _ _ hte
            obtain ⟨z, hz, hzv, hzs, _⟩ := hel.zero_run w
            have hsz : E.P.cellsOf el = z.cells.size := by rw [hel.size, hzs]
            have hrep := repZero_ok (hzv ρ) c.toNat
            obtain ⟨w', h4, h5⟩ := newRow_ok hR el hrep false
            refine .of_value ⟨.slice (some ⟨w.heap.size, 0, none⟩) l.toNat c.toNat, w', _, ?_, .sl (addρ_self ρ st.n w.heap.size 0), h5⟩
            obtain ⟨d', info, z', i1, i2, i3, i4, _⟩ := hel.ex
            have hty : (typeInfo el).run E.P w = .ok info w := by simp [typeInfo, i2]
            have hbytes : E.P.bytesOf el = info.bytes := by simp [Program.bytesOf, i2]
            have hwl : IntKind.i64.wrap l = l := wrap_small hl0 (by omega)
            have hwc : IntKind.i64.wrap c = c := wrap_small (by omega) (by omega)
            have hbc : ¬ ((info.bytes : Int) * c > 2 ^ 48) := by
              rw [hbytes] at hcb
              rw [Int.mul_comm]
              have : (2 : Int) ^ 40 ≤ 2 ^ 48 := by decide
              omega
            have hcond : ((decide (c < 0) || decide ((info.bytes : Int) * c > 2 ^ 48)) || decide (l < 0) || decide (l > c)) = false := by
              simp only [hbc, decide_false, Bool.or_false]
              have q1 : ¬ c < 0 := by omega
              have q2 : ¬ l < 0 := by omega
              have q3 : ¬ l > c := by omega
              simp [q1, q2, q3]
            have hrow : ∀ zs : Array Value, zs = z.cells ∨ (c.toNat * E.P.cellsOf el = 0) → (newRow el ((Array.range (c.toNat * E.P.cellsOf el)).map fun i => zs[i % zs.size]!)).run E.P w = .ok ⟨w.heap.size, 0, none⟩ w' := by
              intro zs hzs'
              have he : (Array.range (c.toNat * E.P.cellsOf el)).map (fun i => zs[i % zs.size]!) = ⟨(List.range (c.toNat * z.cells.toList.length)).map fun i => z.cells.toList[i % z.cells.toList.length]!⟩ := by
                apply Array.ext'
                rcases hzs' with rfl | h0
                · rw [rep_arr, hsz]; simp
                · have h0' : c.toNat * z.cells.toList.length = 0 := by rw [hsz] at h0; simpa using h0
                  rw [h0, h0']; simp
              rw [he]; exact h4
            simp only [Instr.makeSlice, Sem.run_bind, hu, Result.andThen_ok, asInt, asIntOf, Sem.run_pure, hty, hwl, hwc, hcond, Bool.false_eq_true, if_false, run_askRoom, run_sizeOf' hkn]
            by_cases h0 : c.toNat * E.P.cellsOf el = 0
            · simp only [h0, if_true, Sem.run_pure, Result.andThen_ok]
              have := hrow #[] (.inr h0)
              rw [h0] at this
              simp only [Sem.run_bind, Sem.run_pure, Result.andThen_ok, this]
            · simp only [h0, if_false, Sem.run_bind, hz, Result.andThen_ok, Sem.run_pure, hrow _ (.inl rfl)]
          · cases hv
        · cases hv
      · cases hv
    · cases hv
  · trivial
end
end Ev
end
