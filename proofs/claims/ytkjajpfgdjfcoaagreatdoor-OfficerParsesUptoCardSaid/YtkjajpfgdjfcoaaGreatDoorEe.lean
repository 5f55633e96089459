/- The evaluator: regions, loops, calls, leaving. -/
import Derived.Test.YtkjajpfgdjfcoaaGreatDoorEd
set_option linter.unusedVariables false
set_option linter.unusedSimpArgs false
section
namespace Ev
open Go

section
variable {D : Array Oper → Bool} {E : Env} {ρ : Rho} {T : Tr AV} {a : Act} {b : Frame} {n : Nat} {df : List ADef} {st : St} {w : World} {cs : List Frame} {ev : Rec} {ar car : Option Nat} {k : List Item} {ops : Array Oper} {o : Oper}

theorem opAt_get : ∀ (l : List Oper) (j : Nat), opAt l j = l[j]?
  | [], j => rfl
  | o :: os, j => by cases j with
    | zero => rfl
    | succ j => simp [opAt, opAt_get os j]

theorem ER.get (hE : ER ρ T a.tmps) {t : Nat} {v : AV} (h : T.get t = some v) : ∃ x, a.tmps[t]? = some x ∧ VR ρ v x := by
  obtain ⟨h1, h2⟩ := hE t v h
  refine ⟨a.tmps[t], by simp [h1], ?_⟩
  simpa [h1] using h2

theorem wantedA_ok (hE : ER ρ T a.tmps) {r : Bool} (h : wantedA ops.toList o T = some r) : Region.wanted o (yielded ops a.tmps) = r := by
  have hw : wantedA ops.toList o T = match o.guard with | none => some true | some g => wantedG ops.toList T g := by
    unfold wantedA; cases o.guard <;> rfl
  rw [hw] at h
  unfold Region.wanted
  cases hg : o.guard with
  | none => rw [hg] at h; cases h; rfl
  | some g =>
    rw [hg] at h
    obtain ⟨j, want⟩ := g
    simp only [wantedG, opAt_get] at h
    have hj : ops.toList[j]? = ops[j]? := by simp
    rw [hj] at h
    show (yielded ops a.tmps j == some want) = r
    unfold yielded
    cases ho : ops[j]? with
    | none => rw [ho] at h; cases h; rfl
    | some o' =>
      rw [ho] at h
      dsimp only at h
      cases hd : o'.dst with
      | none => rw [hd] at h; cases h; simp [hd]
      | some d =>
        rw [hd] at h
        dsimp only at h
        split at h
        · rename_i bb hb
          cases h
          obtain ⟨x, h1, h2⟩ := hE.get hb
          cases h2
          simp [hd, h1]
        · rename_i hb
          cases h
          obtain ⟨x, h1, h2⟩ := hE.get hb
          cases h2 with
          | tup h3 => cases h3; simp [hd, h1]
        · cases h

theorem aOp_defer {c : Call} (h : o.op = .defer c) : (∃ d, aOp E o T st = .defer d) ∨ ∃ wy, aOp E o T st = .no wy := by
  have : aOp E o T st = opDefer E o T st c := by unfold aOp; rw [h]
  rw [this]
  unfold opDefer
  split
  · split
    · exact .inl ⟨_, rfl⟩
    · exact .inl ⟨_, rfl⟩
    · exact .inr ⟨_, rfl⟩
  · exact .inr ⟨_, rfl⟩

theorem undefA_VR : VR ρ undefA undef := .tup .nil

theorem Sit.put (h : Sit D E ρ b n T df st a w cs) {d : Option Tmp} (hd : dstB n d = true) {v : AV} {x : Value} {ρ' : Rho} {st' : St} {w' : World} (hm : Mv E (GE D E) ρ st w ρ' st' w') (hv : VR ρ' v x) :
    To D E ρ b n st w cs ρ' (putT T d v) df st' (a.put d x) w' cs := by
  have hle := hm.ext.mono
  refine ⟨⟨hm.rel, (h.er.mono hle).putT (dstB_ok hd h.n) hv, by rw [size_put]; exact h.n, ?_, ?_⟩, hm.mw, .inl rfl, by rw [hm.u]⟩
  · have : (a.put d x).defers = a.defers := by cases d <;> rfl
    rw [this]; exact h.df.mono hle
  · rw [hm.u]; exact h.ur.mono hle

theorem Mv.of_mw {ρ' : Rho} {st' : St} {w' : World} {G : Good} (h : Mw E G ρ st w ρ' st' w') (hu : st'.u = st.u) : Mv E G ρ st w ρ' st' w' := ⟨h.rel, h.ext, h.same, hu⟩

theorem runOps_nil : runOps E ev ar ops.toList [] T df st = .normal T df st := rfl
theorem runOps_cons (os : List Oper) : runOps E ev ar ops.toList (o :: os) T df st = oneOp E ev ar ops.toList o (runOps E ev ar ops.toList os) T df st := rfl

/-- one operation of a region in order -/
theorem oneOp_ok (hOK : EOK E) (ih : RecOK D E ev) (hop : opOK E.P.globals.size n o = true) {i : Nat} {l : List Nat} (ho : ops[i]? = some o) {K : Kont}
    (hK : ∀ T df st ρ a w cs, Sit D E ρ b n T df st a w cs → ArR ρ ar car → (ar.isSome = true → st.u = none) → CodeR D E ρ b car n k st w cs (lone (At b car a (.inRegion ops l :: k)) cs w) (K T df st))
    (h : Sit D E ρ b n T df st a w cs) (har : ArR ρ ar car) (hu : ar.isSome = true → st.u = none) :
    CodeR D E ρ b car n k st w cs (lone (At b car a (.inRegion ops (i :: l) :: k)) cs w) (oneOp E ev ar ops.toList o K T df st) := by
  unfold opOK at hop
  simp only [Bool.and_eq_true] at hop
  obtain ⟨hgo, hdst⟩ := hop
  unfold oneOp
  cases hw : wantedA ops.toList o T with
  | none => trivial
  | some r =>
    have hwant := wantedA_ok (ops := ops) h.er hw
    cases r with
    | false =>
      show CodeR D E ρ b car n k st w cs _ (K (putT T o.dst undefA) df st)
      have hs := sm_op_skip (P := E.P) (b := b) (ar := car) (a := a) (k := k) (cs := cs) (w := w) (ops := ops) (i := i) (rest := l) (by simp [ho, hwant])
      simp only [ho, Option.bind_some] at hs
      have ht := h.put hdst (Mv.refl h.rel) (undefA_VR (ρ := ρ))
      exact .step hs (hK _ _ _ _ _ _ _ ht.sit har hu)
    | true =>
      show CodeR D E ρ b car n k st w cs _ (contOp ev ar o.dst T df K st (aOp E o T st))
      have hOp := aOp_ok hOK h.rel h.er hgo
      have hd : (∀ d, aOp E o T st ≠ .defer d) → (∀ wy, aOp E o T st ≠ .no wy) → car = none ∨ ∀ c, o.op ≠ .defer c := by
        intro h1 h2
        right
        intro c hc
        rcases aOp_defer (E := E) (T := T) (st := st) hc with ⟨d, hd⟩ | ⟨wy, hd⟩
        · exact h1 d hd
        · exact h2 wy hd
      generalize aOp E o T st = r at hOp hd ⊢
      cases r with
      | val v st' =>
        obtain ⟨x, w', ρ', hr, hv, hm⟩ := hOp
        have hs := sm_value (P := E.P) (b := b) (ar := car) (k := k) (cs := cs) (rest := l) ho hwant (hd (by simp) (by simp)) hr
        have ht := h.put hdst hm hv
        exact CodeR.after ht (.one hs) (hK _ _ _ _ _ _ _ ht.sit (har.mono hm.ext.mono) (fun h' => by rw [hm.u]; exact hu h')) (fun _ _ _ _ => rfl) (fun _ _ _ _ _ => rfl)
      | skip st' =>
        obtain ⟨w', ρ', hr, hm⟩ := hOp
        have hs := sm_skipped (P := E.P) (b := b) (ar := car) (k := k) (cs := cs) (rest := l) ho hwant (hd (by simp) (by simp)) hr
        have ht := h.put hdst hm (undefA_VR (ρ := ρ'))
        exact CodeR.after ht (.one hs) (hK _ _ _ _ _ _ _ ht.sit (har.mono hm.ext.mono) (fun h' => by rw [hm.u]; exact hu h')) (fun _ _ _ _ => rfl) (fun _ _ _ _ _ => rfl)
      | enter f args st1 =>
        obtain ⟨rfl, xs, hr, hxs⟩ := hOp
        have hs := sm_enter (P := E.P) (b := b) (ar := car) (k := k) (cs := cs) (rest := l) ho hwant (hd (by simp) (by simp)) hr
        show CodeR D E ρ b car n k st1 w cs _ (contCall o.dst T df K (ev (.call f args) st1))
        have hc := ih.call f args st1 ρ w xs h.rel hxs
        generalize ev (.call f args) st1 = out at hc ⊢
        cases out with
        | val v st' =>
          obtain ⟨e, w', fr, ⟨x, ρ', rfl, hv, hm, hu'⟩, hcomes, _, hleave⟩ := hc (At b car a (.inRegion ops (i :: l) :: k) :: cs)
          have hlast := step_leave_returned (c := At b car a (.inRegion ops (i :: l) :: k)) (cs := cs) hleave
          have hf := finish_At b car a ops i l k x
          rw [ho] at hf
          rw [hf] at hlast
          have ht := h.put hdst (Mv.of_mw hm hu') hv
          exact CodeR.after ht (.head hs (Steps.trans hcomes (.one hlast))) (hK _ _ _ _ _ _ _ ht.sit (har.mono hm.ext.mono) (fun h' => by rw [hu']; exact hu h')) (fun _ _ _ _ => rfl) (fun _ _ _ _ _ => rfl)
        | panic c T' df' st' =>
          obtain ⟨e, w', fr, ⟨chain, ρ', rfl, hp, hm, hu'⟩, hcomes, _, hleave⟩ := hc (At b car a (.inRegion ops (i :: l) :: k) :: cs)
          have hlast := step_leave_panicked (c := At b car a (.inRegion ops (i :: l) :: k)) (cs := cs) hleave
          rw [raise_At] at hlast
          have hle := hm.ext.mono
          exact ⟨ρ', a, w', cs, _, chain, ⟨⟨hm.rel, h.er.mono hle, h.n, h.df.mono hle, by rw [hu']; exact h.ur.mono hle⟩, hm, .inl rfl, by rw [hu']⟩, hp, .head hs (Steps.trans hcomes (.one hlast))⟩
        | _ => trivial
      | round l' args =>
        obtain ⟨lb, e, xs, hl, hxs, hr⟩ := hOp
        show CodeR D E ρ b car n k st w cs _ (contCall o.dst T df K (ev (.round l' args) st))
        have hc := ih.round l' args st ρ w xs lb e h.rel hxs hl
        have hstep : ∀ lp, w.heap[lb]? = some (.loop lp) → xs.length = lp.params.size →
            step E.P (lone (At b car a (.inRegion ops (i :: l) :: k)) cs w) = .next (lone (Frame.round lb lp.fn (roundTmps lp xs) lp.assign lp.body .normal) (At b car a (.inRegion ops (i :: l) :: k) :: cs) w) := by
          intro lp hlp hlen
          refine sm_round ho hwant (hd (by simp) (by simp)) ?_
          rw [hr]
          have hgo := run_getObj (P := E.P) hlp (fun _ _ _ h => by cases h)
          simp only [Instr.yield, Instr.getLoop, Sem.run_bind, hgo, Result.andThen_ok, Sem.run_pure]
          have : ¬ ((⟨xs⟩ : Array Value).size ≠ lp.params.size) := by simp [hlen]
          simp only [this, if_false, Sem.run_pure]
          rfl
        generalize ev (.round l' args) st = out at hc ⊢
        cases out with
        | val v st' =>
          obtain ⟨lp, hlp, hlen, hc⟩ := hc
          obtain ⟨x, ρ', w', hsteps, hv, hm, hu'⟩ := hc (At b car a (.inRegion ops (i :: l) :: k)) cs
          have hf := finish_At b car a ops i l k x
          rw [ho] at hf
          rw [hf] at hsteps
          have ht := h.put hdst (Mv.of_mw hm hu') hv
          exact CodeR.after ht (.head (hstep lp hlp hlen) hsteps) (hK _ _ _ _ _ _ _ ht.sit (har.mono hm.ext.mono) (fun h' => by rw [hu']; exact hu h')) (fun _ _ _ _ => rfl) (fun _ _ _ _ _ => rfl)
        | panic c T' df' st' =>
          obtain ⟨lp, hlp, hlen, hc⟩ := hc
          obtain ⟨chain, ρ', w', hsteps, hp, hm, hu'⟩ := hc (At b car a (.inRegion ops (i :: l) :: k)) cs
          rw [raise_At] at hsteps
          have hle := hm.ext.mono
          exact ⟨ρ', a, w', cs, _, chain, ⟨⟨hm.rel, h.er.mono hle, h.n, h.df.mono hle, by rw [hu']; exact h.ur.mono hle⟩, hm, .inl rfl, by rw [hu']⟩, hp, .head (hstep lp hlp hlen) hsteps⟩
        | _ => trivial
      | defer d =>
        show CodeR D E ρ b car n k st w cs _ (contDefer ar o.dst T df K st d)
        unfold contDefer
        cases ar with
        | some _ => trivial
        | none =>
          cases car with
          | some _ => exact har.elim
          | none =>
            obtain ⟨c, hr, hdr⟩ := hOp
            have hs := sm_defer (P := E.P) (b := b) (k := k) (cs := cs) (rest := l) ho hwant hr
            have h' : Sit D E ρ b n T (d :: df) st { a with defers := c :: a.defers } w cs := ⟨h.rel, h.er, h.n, ⟨hdr, h.df⟩, h.ur⟩
            have ht := h'.put hdst (Mv.refl h.rel) (undefA_VR (ρ := ρ))
            exact .step hs (hK _ _ _ _ _ _ _ ht.sit har hu)
      | recover =>
        show CodeR D E ρ b car n k st w cs _ (contRecover ar o.dst T df K st)
        unfold contRecover
        cases ar with
        | some _ => trivial
        | none =>
          cases car with
          | some _ => exact har.elim
          | none =>
            have hr : (execOp a.eval o).run E.P w = .ok .recover w := hOp
            have hno : tryRecover (At b none a (.inRegion ops (i :: l) :: k)) cs = none → CodeR D E ρ b none n k st w cs (lone (At b none a (.inRegion ops (i :: l) :: k)) cs w) (K (putT T o.dst (.val .nilIface)) df st) := by
              intro ht'
              have hs := sm_recover_none (P := E.P) (b := b) (k := k) (cs := cs) (rest := l) ho hwant hr ht'
              have ht := h.put hdst (Mv.refl h.rel) (VR.val (ρ := ρ) .nilIface)
              exact .step hs (hK _ _ _ _ _ _ _ ht.sit har hu)
            have hur := h.ur
            dsimp only
            split
            · rename_i v older hst
              rw [hst] at hur
              obtain ⟨hkind, c, cs0, rfl, ll, hmode, hpan⟩ := hur
              cases ll with
              | nil => exact hpan.elim
              | cons p ps =>
                obtain ⟨⟨hpv, hprec, hpgo⟩, hps⟩ := hpan
                obtain ⟨pv, prec, pgo⟩ := p
                simp only at hprec hpgo hpv
                subst hprec; subst hpgo
                have ht' : tryRecover (At b none a (.inRegion ops (i :: l) :: k)) (c :: cs0) = some (pv, { c with mode := .panicking ({ v := pv, recovered := true } :: ps) } :: cs0) := by
                  unfold tryRecover
                  have hk' : (At b none a (.inRegion ops (i :: l) :: k)).kind = .deferred := hkind
                  simp only [hk', hmode]
                have hs := sm_recover_some (P := E.P) (b := b) (k := k) (rest := l) ho hwant hr ht'
                have hto : To D E ρ b n st w (c :: cs0) ρ (putT T o.dst v) df { st with u := some (.panicking (⟨v, true⟩ :: older)) } (a.put o.dst pv) w ({ c with mode := .panicking ({ v := pv, recovered := true } :: ps) } :: cs0) := by
                  have ht := h.put hdst (Mv.refl h.rel) hpv
                  refine ⟨⟨h.rel.withU _, ht.sit.er, ht.sit.n, ht.sit.df, hkind, _, cs0, rfl, _, rfl, ⟨hpv, rfl, rfl⟩, hps⟩, (Mw.refl h.rel).withR _, .inr ⟨by rw [hst]; rfl, c, cs0, _, rfl, rfl⟩, by rw [hst]; rfl⟩
                exact CodeR.after hto (.one hs) (hK _ _ _ _ _ _ _ hto.sit har (fun h' => by cases h')) (fun _ _ _ _ => rfl) (fun _ _ _ _ _ => rfl)
            · rename_i hne
              refine hno ?_
              unfold tryRecover
              cases hst : st.u with
              | none =>
                rw [hst] at hur
                have hk' : (At b none a (.inRegion ops (i :: l) :: k)).kind = .normal := hur
                simp only [hk']
              | some um =>
                rw [hst] at hur
                obtain ⟨hkind, c, cs0, rfl, hmode⟩ := hur
                have hk' : (At b none a (.inRegion ops (i :: l) :: k)).kind = .deferred := hkind
                simp only [hk']
                cases um with
                | returning =>
                  have hmode' : c.mode = .returning := hmode
                  simp only [hmode']
                | panicking pl =>
                  obtain ⟨ll, hmode', hpan⟩ := hmode
                  cases pl with
                  | nil => cases ll with
                    | nil => simp only [hmode']
                    | cons _ _ => exact hpan.elim
                  | cons p pl =>
                    cases ll with
                    | nil => exact hpan.elim
                    | cons q ql =>
                      obtain ⟨pv, prec⟩ := p
                      cases prec with
                      | false => exact absurd hst (hne pv pl)
                      | true =>
                        obtain ⟨⟨_, hq, _⟩, _⟩ := hpan
                        obtain ⟨qv, qr, qg⟩ := q
                        simp only at hq
                        subst hq
                        simp only [hmode']
      | panic v st1 =>
        obtain ⟨rfl, x, hr, hv⟩ := hOp
        have hs := sm_panic (P := E.P) (b := b) (ar := car) (k := k) (cs := cs) (rest := l) ho hwant (hd (by simp) (by simp)) hr
        exact ⟨ρ, a, w, cs, _, [{ v := x, recovered := false }], To.refl h, ⟨⟨hv, rfl, rfl⟩, trivial⟩, .one hs⟩
      | no wy => trivial

/-- a region in order -/
theorem runOps_ok (hOK : EOK E) (ih : RecOK D E ev) : ∀ (l : List Nat) (os : List Oper), l.map (fun i => ops[i]?) = os.map some → (∀ o ∈ os, opOK E.P.globals.size n o = true) →
    ∀ T df st ρ a w cs, Sit D E ρ b n T df st a w cs → ArR ρ ar car → (ar.isSome = true → st.u = none) →
    CodeR D E ρ b car n k st w cs (lone (At b car a (.inRegion ops l :: k)) cs w) (runOps E ev ar ops.toList os T df st)
  | [], [], _, _, T, df, st, ρ, a, w, cs, h, _, _ => ⟨ρ, a, w, cs, To.refl h, .one sm_region_end⟩
  | i :: l, o :: os, hl, hall, T, df, st, ρ, a, w, cs, h, har, hu => by
    simp only [List.map_cons, List.cons.injEq] at hl
    rw [runOps_cons]
    exact oneOp_ok hOK ih (hall o (List.mem_cons_self ..)) hl.1 (runOps_ok hOK ih l os hl.2 (fun o ho => hall o (List.mem_cons_of_mem _ ho))) h har hu
  | [], _ :: _, hl, _, _, _, _, _, _, _, _, _, _, _ => by simp at hl
  | _ :: _, [], hl, _, _, _, _, _, _, _, _, _, _, _ => by simp at hl
end
end Ev
end

section
namespace Ev
open Go

section
variable {D : Array Oper → Bool} {E : Env} {ρ : Rho} {T : Tr AV} {a : Act} {b : Frame} {n : Nat} {df : List ADef} {st : St} {w : World} {cs : List Frame} {ev : Rec} {ar car : Option Nat} {k : List Item} {ops : Array Oper} {o : Oper} {f : FuncId}

/-- the word about drawn regions -/
def DrawnOK (D : Array Oper → Bool) (E : Env) (ev : Rec) : Prop :=
  ∀ (ops : Array Oper) (t n : Nat) (T : Tr AV) (df : List ADef) (st : St) (ρ : Rho) (b : Frame) (ar car : Option Nat) (k : List Item) (a : Act) (w : World) (cs : List Frame), D ops = true → ops.all (opOK E.P.globals.size n) = true →
    Sit D E ρ b n T df st a w cs → ArR ρ ar car → (ar.isSome = true → st.u = none) →
    CodeR D E ρ b car n k st w cs (lone (At b car a (.inRegion ops (Region.linearise .any ops t) :: k)) cs w) (runOpsD E ev ops.toList (planR ops) T df st)

theorem Rel.heapEq {G : Good} {h h' : Array Obj} (r : Rel E G ρ st h) (he : h' = h) : Rel E G ρ st h' := he ▸ r

theorem region_ok (hOK : EOK E) (hm : E.P.follows .mixedOrders = true) (ih : RecOK D E ev) (hdr : DrawnOK D E ev) {id : Nat} {d : Bool} (hg : goodC D E.P.globals.size n (.region id ops d) = true)
    (h : Sit D E ρ b n T df st a w cs) (har : ArR ρ ar car) (hu : ar.isSome = true → st.u = none) :
    CodeR D E ρ b car n k st w cs (lone (At b car a (.code (.region id ops d) :: k)) cs w) (evRegion E ev ar ops d T df st) := by
  simp only [goodC, Bool.and_eq_true] at hg
  cases d with
  | false =>
    show CodeR D E ρ b car n k st w cs _ (runOps E ev ar ops.toList ops.toList T df st)
    refine .step sm_region (runOps_ok hOK ih _ _ ?_ ?_ _ _ _ _ _ _ _ h har hu)
    · apply List.ext_getElem?
      intro i
      by_cases hi : i < ops.size
      · simp [hi]
      · simp [hi]
    · intro o ho
      exact (Array.all_eq_true_iff_forall_mem.1 hg.1) o (by simpa using ho)
  | true =>
    show CodeR D E ρ b car n k st w cs _ (runOpsD E ev ops.toList (planR ops) T df st)
    have hDops : D ops = true := by simpa using hg.2
    let w1 : World := { w with drawn := w.drawn + 1 }
    have h1 : Sit D E ρ b n T df st a w1 cs := ⟨h.rel, h.er, h.n, h.df, h.ur⟩
    have hto : To D E ρ b n st w cs ρ T df st a w1 cs := ⟨h1, ⟨h.rel, Ext.refl _ _ _, ⟨rfl, rfl, rfl⟩⟩, .inl rfl, rfl⟩
    have hs := sm_region_draw (P := E.P) (b := b) (ar := car) (a := a) (k := k) (cs := cs) (w := w) (ops := ops) (id := id)
    simp only [Region.schedule, hm, Bool.true_or, if_true] at hs
    exact CodeR.after hto (.one hs) (hdr ops _ n T df st ρ b ar car k a w1 cs hDops hg.1 h1 har hu) (fun _ _ _ _ => rfl) (fun _ _ _ _ _ => rfl)

theorem To.uNone {ρ' : Rho} {T' : Tr AV} {df' : List ADef} {st' : St} {a' : Act} {w' : World} {cs' : List Frame} (hto : To D E ρ b n st w cs ρ' T' df' st' a' w' cs') (hu : ar.isSome = true → st.u = none) : ar.isSome = true → st'.u = none := by
  intro h'
  have h1 := hu h'
  have h2 := hto.u
  rw [h1] at h2
  cases hst : st'.u with
  | none => rfl
  | some _ => rw [hst] at h2; cases h2

/-- behind a first part, a second -/
theorem contSeq_ok (ih : RecOK D E ev) {c2 : Code} {it : Item} {m : Machine} {out : Out} (hit : Entry it c2) (hex : ∀ id, exitTo id (it :: k) = exitTo id k) (hg : goodC D E.P.globals.size n c2 = true)
    (har : ArR ρ ar car) (hu : ar.isSome = true → st.u = none) (hbf : b.fn = f) (hfn : ∃ fn, E.P.funcs[f]? = some fn) (h1 : CodeR D E ρ b car n (it :: k) st w cs m out) :
    CodeR D E ρ b car n k st w cs m (contSeq ev ar c2 f out) := by
  cases out with
  | no w => trivial
  | val v s => trivial
  | normal T' df' st' =>
    obtain ⟨ρ', a', w', cs', hto, hs⟩ := h1
    exact CodeR.after hto hs (ih.code ar c2 T' df' f st' ρ' b car n k a' w' cs' hto.sit hg (har.mono hto.mw.ext.mono) (hto.uNone hu) hbf hfn it hit) (fun _ _ _ _ => rfl) (fun _ _ _ _ _ => rfl)
  | exit id T' df' st' =>
    obtain ⟨ρ', a', w', cs', k', hto, he, hs⟩ := h1
    exact ⟨ρ', a', w', cs', k', hto, he.trans (hex id), hs⟩
  | ret T' df' st' => exact h1
  | panic c T' df' st' => exact h1

theorem contBlock_ok {id : Nat} {m : Machine} {out : Out} (h1 : CodeR D E ρ b car n (.inBlock id :: k) st w cs m out) : CodeR D E ρ b car n k st w cs m (contBlock id out) := by
  cases out with
  | no w => trivial
  | val v s => trivial
  | normal T' df' st' =>
    obtain ⟨ρ', a', w', cs', hto, hs⟩ := h1
    exact ⟨ρ', a', w', cs', hto, hs.trans (.one sm_inBlock)⟩
  | exit id' T' df' st' =>
    obtain ⟨ρ', a', w', cs', k', hto, he, hs⟩ := h1
    show CodeR D E ρ b car n k st w cs m (@Bool.rec (fun _ => Out) (.exit id' T' df' st') (.normal T' df' st') (Nat.beq id' id))
    cases hb : Nat.beq id' id with
    | true =>
      have := Nat.eq_of_beq_eq_true hb
      subst this
      have he' : exitTo id' k' = some k := by rw [he]; simp [exitTo]
      exact ⟨ρ', a', w', cs', hto, hs.trans (.one (sm_exit he'))⟩
    | false =>
      have hne := Nat.ne_of_beq_eq_false hb
      have he' : exitTo id' k' = exitTo id' k := by
        rw [he]
        have : (id == id') = false := by simpa using fun h => hne h.symm
        simp [exitTo, this]
      exact ⟨ρ', a', w', cs', k', hto, he', hs⟩
  | ret T' df' st' => exact h1
  | panic c T' df' st' => exact h1

theorem scope_ok {c : Code} {m : Machine} {out : Out} (h1 : CodeR D E ρ b car n (.inScope c :: k) st w cs m out) : CodeR D E ρ b car n k st w cs m out := by
  cases out with
  | no w => trivial
  | val v s => trivial
  | normal T' df' st' =>
    obtain ⟨ρ', a', w', cs', hto, hs⟩ := h1
    exact ⟨ρ', a', w', cs', hto, hs.trans (.one sm_inScope)⟩
  | exit id' T' df' st' => exact h1
  | ret T' df' st' => exact h1
  | panic c T' df' st' => exact h1

theorem contCond_ok (ih : RecOK D E ev) {c : Operand} {x y : Code} (hg : goodC D E.P.globals.size n (.cond c x y) = true) (h : Sit D E ρ b n T df st a w cs) (har : ArR ρ ar car) (hu : ar.isSome = true → st.u = none) (hbf : b.fn = f) (hfn : ∃ fn, E.P.funcs[f]? = some fn) :
    CodeR D E ρ b car n k st w cs (lone (At b car a (.code (.cond c x y) :: k)) cs w) (contCond ev ar x y T df f st (evalO T c)) := by
  simp only [goodC, Bool.and_eq_true] at hg
  have hv := VR.evalO h.er (fun i hi => h.rel.glob i hi) hg.1.1
  generalize hz : a.eval c = z at hv
  generalize evalO T c = v at hv
  cases hv <;> try trivial
  rename_i t
  have hs := sm_cond (P := E.P) (b := b) (ar := car) (k := k) (cs := cs) (w := w) (x := x) (y := y) hz
  cases t with
  | true => exact .step hs (ih.code ar x T df f st ρ b car n k a w cs h hg.1.2 har hu hbf hfn _ (.code x))
  | false => exact .step hs (ih.code ar y T df f st ρ b car n k a w cs h hg.2 har hu hbf hfn _ (.code y))

/-- the loop of a range over a function, as it is made -/
theorem enterLoop_ok {ps : Array Tmp} {as bd : Code} (hg : goodC D E.P.globals.size n as = true ∧ goodC D E.P.globals.size n bd = true) (hps : ∀ t ∈ ps, t < n) (h : Sit D E ρ b n T df st a w cs) (har : ArR ρ ar car)
    {d : Nat} {mark : List ADef} {s1 : St} (hr : loopStart ar st = some (d, mark, s1)) :
    ∃ lb cmark w' ρ', (Instr.enterLoop f a.tmps ps as bd car).run E.P w = .ok (lb, cmark) w' ∧ Mv E (GE D E) ρ st w ρ' (s1.new (.loop .ready none f T ps.toList as bd d)) w' ∧ ρ' s1.n = some (lb, 0) ∧ DRs ρ' mark cmark := by
  have mk : ∀ (ρ1 : Rho) (s1 : St) (w1 : World) (db e : Nat), Mv E (GE D E) ρ st w ρ1 s1 w1 → ρ1 d = some (db, e) → ∃ w' ρ', (newObj (.loop { state := .ready, pending := none, fn := f, tmps := a.tmps, params := ps, assign := as, body := bd, defers := db })).run E.P w1 = .ok w1.heap.size w' ∧
      Mv E (GE D E) ρ st w ρ' (s1.new (.loop .ready none f T ps.toList as bd d)) w' ∧ ρ' s1.n = some (w1.heap.size, 0) ∧ Le ρ1 ρ' := by
    intro ρ1 s1 w1 db e hm hd
    obtain ⟨w', h1, h2⟩ := newObj_ok (E := E) (ρ := ρ1) (st := s1) (w := w1) hm.rel (ob := .loop .ready none f T ps.toList as bd d) (o' := .loop { state := .ready, pending := none, fn := f, tmps := a.tmps, params := ps, assign := as, body := bd, defers := db })
      (.loop _ { hstate := rfl, hpend := rfl, hfn := rfl, tmps := h.er.mono hm.ext.mono, hparams := rfl, hassign := rfl, hbody := rfl, defers := ⟨db, e, hd, rfl⟩,
                 goodA := goodC_mono h.n hg.1, goodB := goodC_mono h.n hg.2, inb := fun t ht => Nat.lt_of_lt_of_le (hps t (by simpa using ht)) h.n, goodP := fun c hc => by cases hc })
    exact ⟨w', _, h1, hm.trans h2, addρ_self _ _ _ _, h2.ext.mono⟩
  cases ar with
  | none =>
    cases car with
    | some _ => exact har.elim
    | none =>
      simp only [loopStart, Option.some.injEq, Prod.mk.injEq] at hr
      obtain ⟨rfl, rfl, rfl⟩ := hr
      obtain ⟨w1, h1, h2⟩ := newObj_ok (E := E) (w := w) h.rel (ob := .deferred []) (o' := .deferred (some [])) (.deferred [] trivial)
      obtain ⟨w', ρ', h3, h4, h5, h6⟩ := mk _ _ w1 w.heap.size 0 h2 (addρ_self _ _ _ _)
      refine ⟨w1.heap.size, [{ target := .collected w.heap.size, args := #[] }], w', ρ', ?_, h4, h5, ⟨⟨w.heap.size, 0, h6 _ _ (addρ_self _ _ _ _), rfl, rfl⟩, trivial⟩⟩
      simp only [Instr.enterLoop, Sem.run_bind, h1, Result.andThen_ok, Sem.run_pure, h3]
  | some l =>
    cases car with
    | none => exact har.elim
    | some lb0 =>
      obtain ⟨e0, hl⟩ := har
      simp only [loopStart] at hr
      split at hr
      · rename_i q1 q2 q3 q4 q5 q6 q7 q8 hg'
        simp only [Option.some.injEq, Prod.mk.injEq] at hr
        obtain ⟨rfl, rfl, rfl⟩ := hr
        obtain ⟨ob, hb, hor⟩ := h.rel.obj _ _ _ _ hg' hl
        cases hor with
        | loop lp hlp =>
        obtain ⟨db, e1, hd1, hd2⟩ := hlp.defers
        have hgo := run_getObj (P := E.P) hb (fun _ _ _ h => by cases h)
        obtain ⟨w', ρ', h3, h4, h5, h6⟩ := mk ρ st w db e1 (Mv.refl h.rel) hd1
        refine ⟨w.heap.size, [], w', ρ', ?_, h4, h5, trivial⟩
        simp only [Instr.enterLoop, Instr.getLoop, Sem.run_bind, hgo, Result.andThen_ok, Sem.run_pure, hd2, h3]
      · cases hr

theorem DRs.append : ∀ {ds es : List ADef} {xs ys : List Deferred}, DRs ρ ds xs → DRs ρ es ys → DRs ρ (ds ++ es) (xs ++ ys)
  | [], _, [], _, _, h => h
  | _ :: _, _, _ :: _, _, h, h' => ⟨h.1, DRs.append h.2 h'⟩
  | [], _, _ :: _, _, h, _ => h.elim
  | _ :: _, _, [], _, h, _ => h.elim

theorem endLoopA_ok (ih : RecOK D E ev) {l lb e : Nat} {T' : Tr AV} {df' : List ADef} {s' : St} {a' : Act} {w' : World} {cs' : List Frame} (h : Sit D E ρ b n T' df' s' a' w' cs') (hl : ρ l = some (lb, e)) (har : ArR ρ ar car) (hu : ar.isSome = true → s'.u = none) (hbf : b.fn = f) (hfn : ∃ fn, E.P.funcs[f]? = some fn) {v : AV} :
    CodeR D E ρ b car n k s' w' cs' (lone (At b car a' (.endRangeFunc lb :: k)) cs' w') (endLoopA ev ar l T' df' f (.val v s')) := by
  unfold endLoopA
  dsimp only
  split
  · rename_i lst pend q1 q2 q3 q4 q5 q6 hg
    obtain ⟨ob, hb, hor⟩ := h.rel.obj _ _ _ _ hg hl
    cases hor with
    | loop lp hlp =>
    have hgo := run_getObj (P := E.P) hb (fun _ _ _ h => by cases h)
    split
    · trivial
    · rename_i hnb
      have hnew : OR E (GE D E) ρ e (.loop .exhausted pend q1 q2 q3 q4 q5 q6) (.loop { lp with state := .exhausted }) :=
        .loop _ { hstate := rfl, hpend := hlp.hpend, hfn := hlp.hfn, tmps := hlp.tmps, hparams := hlp.hparams, hassign := hlp.hassign, hbody := hlp.hbody, defers := hlp.defers, goodA := hlp.goodA, goodB := hlp.goodB, inb := hlp.inb, goodP := hlp.goodP }
      obtain ⟨w2, r1, r2⟩ := setObj_ok h.rel hl hg hb (fun _ _ _ h => by cases h) hnew
      have hbusy : (lp.state == LoopState.busy) = false := by
        rw [hlp.hstate]
        cases lst <;> first | rfl | exact absurd rfl hnb
      have hrun : (Instr.endLoop lb).run E.P w' = .ok lp.pending w2 := by
        simp only [Instr.endLoop, Instr.getLoop, Sem.run_bind, hgo, Result.andThen_ok, Sem.run_pure, hbusy, Bool.false_eq_true, if_false, r1]
      have hs := sm_endRange (b := b) (ar := car) (a := a') (k := k) (cs := cs') hrun
      have hto : To D E ρ b n s' w' cs' ρ T' df' (s'.upd l (some (.loop .exhausted pend q1 q2 q3 q4 q5 q6))) a' w2 cs' :=
        ⟨⟨r2.rel, h.er, h.n, h.df, h.ur⟩, r2.mw, .inl rfl, rfl⟩
      rw [hlp.hpend] at hs
      cases pend with
      | none => exact ⟨ρ, a', w2, cs', hto, .one hs⟩
      | some c =>
        have hgc : goodC D E.P.globals.size n c = true := by
          rcases hlp.goodP c rfl with rfl | ⟨id, rfl⟩ <;> rfl
        exact CodeR.after hto (.one hs) (ih.code ar c T' df' f _ ρ b car n k a' w2 cs' hto.sit hgc har (fun h' => hu h') hbf hfn _ (.code c)) (fun _ _ _ _ => rfl) (fun _ _ _ _ _ => rfl)
  · trivial

theorem evRange_ok (hOK : EOK E) (ih : RecOK D E ev) {g : Operand} {ps : Array Tmp} {as bd : Code} (hg : goodC D E.P.globals.size n (.rangeFunc g ps as bd) = true) (h : Sit D E ρ b n T df st a w cs) (har : ArR ρ ar car) (hu : ar.isSome = true → st.u = none) (hbf : b.fn = f) (hfn : ∃ fn, E.P.funcs[f]? = some fn) :
    CodeR D E ρ b car n k st w cs (lone (At b car a (.code (.rangeFunc g ps as bd) :: k)) cs w) (evRange E ev ar g ps as bd T df f st) := by
  simp only [goodC, Bool.and_eq_true] at hg
  obtain ⟨⟨⟨hgx, hps⟩, hga⟩, hgb⟩ := hg
  have hps' : ∀ t ∈ ps, t < n := fun t ht => by simpa [Nat.blt_eq] using (Array.all_eq_true_iff_forall_mem.1 hps) t ht
  unfold evRange
  split
  · trivial
  · rename_i d mark s1 hr
    obtain ⟨lb, cmark, w1, ρ1, h1, h2, h3, h4⟩ := enterLoop_ok (f := f) ⟨hga, hgb⟩ hps' h har hr
    have hle := h2.ext.mono
    have hgv : VR ρ1 (evalO T g) (a.eval g) := (VR.evalO h.er (fun i hi => h.rel.glob i hi) hgx).mono hle
    have hyld : VRs ρ1 [AV.yld s1.n] [.func (.yield lb) #[] #[]] := .cons (.yld h3) .nil
    let s2 := s1.new (.loop .ready none f T ps.toList as bd d)
    split
    · rename_i f' args s3 hcv
      obtain ⟨rfl, xs, hrun, hxs⟩ := callV_enter hOK hgv hyld hcv w1
      let a1 : Act := { a with defers := cmark ++ a.defers }
      have hsit1 : Sit D E ρ1 b n T (mark ++ df) s2 a1 w1 cs := by
        refine ⟨h2.rel, h.er.mono hle, h.n, ?_, ?_⟩
        · exact DRs.append h4 (h.df.mono hle)
        · have : s2.u = st.u := h2.u
          rw [this]; exact h.ur.mono hle
      have hstep := sm_rangeFunc (P := E.P) (b := b) (ar := car) (a := a) (k := k) (cs := cs) (f := g) (ps := ps) (as := as) (bd := bd) (by rw [hbf]; exact h1) (w2 := w1) (g := f') (args := ⟨xs⟩) (by
        simp only [resolve, eval_At']
        have : ({ a with defers := cmark ++ a.defers } : Act).eval g = a.eval g := by cases g <;> rfl
        simp only [this]
        have hmap : ∀ (ρ : Operand → Value), (#[Operand.const (Value.func (Fn.yield lb) #[] #[])] : Array Operand).map ρ = ⟨[ρ (Operand.const (Value.func (Fn.yield lb) #[] #[]))]⟩ := fun ρ => by simp
        rw [hmap]
        exact hrun)
      have hto : To D E ρ b n st w cs ρ1 T (mark ++ df) s2 a1 w1 cs := ⟨hsit1, h2.mw, .inl rfl, by rw [h2.u]⟩
      have hc := ih.call f' args s2 ρ1 w1 xs h2.rel hxs
      generalize ev (.call f' args) s2 = out at hc ⊢
      cases out with
      | val v st' =>
        obtain ⟨e, w', fr, ⟨x, ρ', rfl, hv, hm, hu'⟩, hcomes, _, hleave⟩ := hc (At b car a1 (.inRangeFunc lb :: k) :: cs)
        have hlast := step_leave_returned (c := At b car a1 (.inRangeFunc lb :: k)) (cs := cs) hleave
        rw [finish_inRange] at hlast
        have hle2 := hm.ext.mono
        have hto2 : To D E ρ1 b n s2 w1 cs ρ' T (mark ++ df) st' a1 w' cs := ⟨⟨hm.rel, hsit1.er.mono hle2, h.n, hsit1.df.mono hle2, by rw [hu']; exact hsit1.ur.mono hle2⟩, hm, .inl rfl, by rw [hu']⟩
        exact CodeR.after (hto.trans hto2) (.head hstep (Steps.trans hcomes (.one hlast)))
          (endLoopA_ok ih hto2.sit (hle2 _ _ h3) ((har.mono hle).mono hle2) ((hto.trans hto2).uNone hu) hbf hfn) (fun _ _ _ _ => rfl) (fun _ _ _ _ _ => rfl)
      | panic c T' df' st' =>
        obtain ⟨e, w', fr, ⟨chain, ρ', rfl, hp, hm, hu'⟩, hcomes, _, hleave⟩ := hc (At b car a1 (.inRangeFunc lb :: k) :: cs)
        have hlast := step_leave_panicked (c := At b car a1 (.inRangeFunc lb :: k)) (cs := cs) hleave
        rw [raise_At] at hlast
        have hle2 := hm.ext.mono
        have hto2 : To D E ρ1 b n s2 w1 cs ρ' T (mark ++ df) st' a1 w' cs := ⟨⟨hm.rel, hsit1.er.mono hle2, h.n, hsit1.df.mono hle2, by rw [hu']; exact hsit1.ur.mono hle2⟩, hm, .inl rfl, by rw [hu']⟩
        exact ⟨ρ', a1, w', cs, _, chain, hto.trans hto2, hp, .head hstep (Steps.trans hcomes (.one hlast))⟩
      | _ => trivial
    · trivial
end
end Ev
end

section
namespace Ev
open Go

section
variable {D : Array Oper → Bool} {E : Env} {ρ : Rho} {T : Tr AV} {a : Act} {b : Frame} {n : Nat} {df : List ADef} {st : St} {w : World} {cs : List Frame} {ev : Rec} {ar car : Option Nat} {k : List Item} {ops : Array Oper} {o : Oper} {f : FuncId}

theorem evCode_ok (hOK : EOK E) (hm : E.P.follows .mixedOrders = true) (ih : RecOK D E ev) (hdr : DrawnOK D E ev) {c : Code} (h : Sit D E ρ b n T df st a w cs) (hg : goodC D E.P.globals.size n c = true) (har : ArR ρ ar car)
    (hu : ar.isSome = true → st.u = none) (hbf : b.fn = f) (hfn : ∃ fn, E.P.funcs[f]? = some fn) {it : Item} (hit : Entry it c) :
    CodeR D E ρ b car n k st w cs (lone (At b car a (it :: k)) cs w) (evCode E ev ar c T df f st) := by
  cases hit with
  | loop c1 =>
    refine .step sm_inLoop ?_
    exact contSeq_ok (k := k) ih (.loop c1) (fun _ => rfl) hg har hu hbf hfn (ih.code ar c1 T df f st ρ b car n (.inLoop c1 :: k) a w cs h hg har hu hbf hfn _ (.code c1))
  | code c =>
  cases c with
  | skip => exact .step sm_skip ⟨ρ, a, w, cs, To.refl h, Steps.refl _ _⟩
  | region id ops d => exact region_ok hOK hm ih hdr hg h har hu
  | seq x y =>
    have hg' := hg
    simp only [goodC, Bool.and_eq_true] at hg'
    exact .step sm_seq (contSeq_ok (k := k) ih (.code y) (fun _ => rfl) hg'.2 har hu hbf hfn (ih.code ar x T df f st ρ b car n (.code y :: k) a w cs h hg'.1 har hu hbf hfn _ (.code x)))
  | cond c x y => exact contCond_ok ih hg h har hu hbf hfn
  | block id x => exact .step sm_block (contBlock_ok (ih.code ar x T df f st ρ b car n (.inBlock id :: k) a w cs h hg har hu hbf hfn _ (.code x)))
  | loop c1 =>
    refine .step sm_loop ?_
    exact contSeq_ok (k := k) ih (.loop c1) (fun _ => rfl) hg har hu hbf hfn (ih.code ar c1 T df f st ρ b car n (.inLoop c1 :: k) a w cs h hg har hu hbf hfn _ (.code c1))
  | rangeFunc g ps as bd => exact evRange_ok hOK ih hg h har hu hbf hfn
  | exit id => exact ⟨ρ, a, w, cs, k, To.refl h, rfl, Steps.refl _ _⟩
  | scope x => exact .step sm_scope (scope_ok (ih.code ar x T df f st ρ b car n (.inScope x :: k) a w cs h hg har hu hbf hfn _ (.code x)))
  | label l => exact .step sm_label ⟨ρ, a, w, cs, To.refl h, Steps.refl _ _⟩
  | goto l => trivial
  | ret => exact ⟨ρ, a, w, cs, k, To.refl h, Steps.refl _ _⟩
  | refuse s => trivial

/-! ### a function's frame -/
theorem load_get : ∀ (as : List AV) (t : Tr AV) (i m : Nat) (v : AV), (load t i as).get m = some v → (t.get m = some v ∧ (m < i ∨ i + as.length ≤ m)) ∨ (i ≤ m ∧ as[m - i]? = some v)
  | [], t, i, m, v, h => .inl ⟨h, by simp; omega⟩
  | x :: as, t, i, m, v, h => by
    have h' : (load (t.put bits i (some x)) (i + 1) as).get m = some v := h
    rcases load_get as _ (i + 1) m v h' with ⟨h1, h2⟩ | ⟨h1, h2⟩
    · rcases Tr.put_some h1 with ⟨rfl, hx⟩ | ⟨hne, hx⟩
      · cases hx; right; simp
      · left
        refine ⟨hx, ?_⟩
        rcases h2 with h2 | h2
        · left; omega
        · right; simp; omega
    · right
      refine ⟨by omega, ?_⟩
      have : m - i = (m - (i + 1)) + 1 := by omega
      rw [this]; simpa using h2

theorem VRs.getElem {as : List AV} {xs : List Value} (h : VRs ρ as xs) {m : Nat} {v : AV} (hv : as[m]? = some v) : ∃ x, xs[m]? = some x ∧ VR ρ v x := by
  induction as generalizing xs m with
  | nil => simp at hv
  | cons a as ih =>
    cases h with
    | cons h hs =>
      cases m with
      | zero => simp at hv; subst hv; exact ⟨_, by simp, h⟩
      | succ m => simp at hv; simpa using ih hs hv

theorem ER.load {args : List AV} {xs : List Value} (h : VRs ρ args xs) (n : Nat) : ER ρ (load .nil 0 args) ((⟨xs⟩ : Array Value) ++ Array.replicate n undef) := by
  intro m v hv
  rcases load_get args _ 0 m v hv with ⟨h1, _⟩ | ⟨_, h2⟩
  · simp at h1
  · obtain ⟨x, h3, h4⟩ := h.getElem h2
    simp only [Nat.sub_zero] at h3
    have hlt : m < xs.length := by
      rcases Nat.lt_or_ge m xs.length with h | h
      · exact h
      · simp [List.getElem?_eq_none h] at h3
    refine ⟨by simp; omega, ?_⟩
    have : ((⟨xs⟩ : Array Value) ++ Array.replicate n undef).getD m undef = x := by
      simp only [Array.getD_eq_getD_getElem?]
      rw [Array.getElem?_append_left (by simpa using hlt)]
      simp [h3]
    rw [this]; exact h4

theorem enter_sit (hB : BOK D E) {fn : Func} {c : Code} (hf : E.fn f = some fn) (hb : fn.body = some c) {args : List AV} {xs : List Value} (hR : Rel E (GE D E) ρ st w.heap) (hxs : VRs ρ args xs)
    (hbk : UR ρ b st.u cs) : Sit D E ρ b fn.ntmps (load .nil 0 args) [] st { tmps := ⟨xs⟩ ++ Array.replicate (fn.ntmps - xs.length) undef, defers := [] } w cs :=
  ⟨hR, ER.load hxs _, by simp; omega, trivial, hbk⟩

theorem enter_eq (hOK : EOK E) {fn : Func} {c : Code} (hf : E.fn f = some fn) (hb : fn.body = some c) (xs : List Value) (kind : CallKind) :
    Frame.enter E.P f ⟨xs⟩ kind = At { (default : Frame) with fn := f, kind := kind } none { tmps := ⟨xs⟩ ++ Array.replicate (fn.ntmps - xs.length) undef, defers := [] } [.code c] := by
  simp [Frame.enter, At, hOK.fn _ _ hf, hb]

theorem CsU.none {cs cs' : List Frame} (h : CsU none cs cs') : cs' = cs := by
  rcases h with h | ⟨h, _⟩
  · exact h
  · cases h

theorem evCallN_ok (hOK : EOK E) (hB : BOK D E) (ih : RecOK D E ev) {args : List AV} {xs : List Value} (hR : Rel E (GE D E) ρ st w.heap) (hxs : VRs ρ args xs) : CallR D E ρ f xs st w (evCallN E ev f args st) := by
  unfold evCallN
  split
  · trivial
  · rename_i fn hf
    unfold evEnter
    split
    · trivial
    · rename_i c hb
      have hfn := hOK.fn _ _ hf
      let b : Frame := { (default : Frame) with fn := f, kind := .normal }
      let a0 : Act := { tmps := ⟨xs⟩ ++ Array.replicate (fn.ntmps - xs.length) undef, defers := [] }
      have hg := hB.body f fn c hf hb
      have main : ∀ cs, CodeR D E ρ b none fn.ntmps [] { st with u := none } w cs (lone (At b none a0 [.code c]) cs w) (ev (.code none c (load .nil 0 args) [] f) { st with u := none }) := fun cs =>
        ih.code none c _ [] f { st with u := none } ρ b none fn.ntmps [] a0 w cs (enter_sit hB hf hb (hR.withU none) hxs rfl) hg trivial (fun h => by cases h) rfl ⟨fn, hfn⟩ _ (.code c)
      have lv : ∀ (T : Tr AV) (df : List ADef) (s' : St) (u : AMode), (∀ cs, ∃ ρ' a' w' fr mode, To D E ρ b fn.ntmps { st with u := none } w cs ρ' T df s' a' w' cs ∧ ModeR ρ' u mode ∧ fr.mode = mode ∧ fr.defers = a'.defers ∧ fr.tmps = a'.tmps ∧ fr.fn = f ∧ fr.kind = .normal ∧
          Steps E.P (lone (Frame.enter E.P f ⟨xs⟩ .normal) cs w) (lone fr cs w')) → CallR D E ρ f xs st w (ev (.leave fn T df u) { s' with u := st.u }) := by
        intro T df s' u hall
        cases hout2 : ev (.leave fn T df u) { s' with u := st.u } with
        | val v st2 =>
          intro cs
          obtain ⟨ρ', a', w', fr, mode, hto, hmr, h1, h2, h3, h4, h5, hs⟩ := hall cs
          have hl := ih.leave fn T df u { s' with u := st.u } ρ' a' mode w' (hto.sit.rel.withU _) hto.sit.er hto.sit.df hmr
          rw [hout2] at hl
          obtain ⟨x, ρ2, w2, fr2, hs2, hfn2, hleave, hv, hm, hu2⟩ := hl fr cs h1 h2 h3 (by rw [h4]; exact hfn) h5
          exact ⟨.returned x, w2, fr2, ⟨x, ρ2, rfl, hv, hto.mw.withL.trans hm.withL, hu2⟩, Steps.trans hs hs2, hfn2.trans h4, hleave⟩
        | panic c2 T2 df2 st2 =>
          intro cs
          obtain ⟨ρ', a', w', fr, mode, hto, hmr, h1, h2, h3, h4, h5, hs⟩ := hall cs
          have hl := ih.leave fn T df u { s' with u := st.u } ρ' a' mode w' (hto.sit.rel.withU _) hto.sit.er hto.sit.df hmr
          rw [hout2] at hl
          obtain ⟨chain, ρ2, w2, fr2, hs2, hfn2, hleave, hv, hm, hu2⟩ := hl fr cs h1 h2 h3 (by rw [h4]; exact hfn) h5
          exact ⟨.panicked chain, w2, fr2, ⟨chain, ρ2, rfl, hv, hto.mw.withL.trans hm.withL, hu2⟩, Steps.trans hs hs2, hfn2.trans h4, hleave⟩
        | _ => trivial
      generalize hout : ev (.code none c (load .nil 0 args) [] f) { st with u := none } = out at main
      cases out with
      | no w => trivial
      | val v s => trivial
      | normal T df s' =>
        show CallR D E ρ f xs st w (ev (.leave fn T df .returning) { s' with u := st.u })
        refine lv T df s' .returning fun cs => ?_
        obtain ⟨ρ', a', w', cs', hto, hs⟩ := main cs
        have := hto.cs.none
        subst this
        refine ⟨ρ', a', w', { At b none a' [] with mode := .returning }, _, hto, rfl, rfl, rfl, rfl, rfl, rfl, ?_⟩
        rw [enter_eq hOK hf hb]
        exact hs.trans (.one sm_end)
      | exit id T df s => trivial
      | ret T df s' =>
        show CallR D E ρ f xs st w (ev (.leave fn T df .returning) { s' with u := st.u })
        refine lv T df s' .returning fun cs => ?_
        obtain ⟨ρ', a', w', cs', k', hto, hs⟩ := main cs
        have := hto.cs.none
        subst this
        refine ⟨ρ', a', w', { At b none a' (.code .ret :: k') with mode := .returning }, _, hto, rfl, rfl, rfl, rfl, rfl, rfl, ?_⟩
        rw [enter_eq hOK hf hb]
        exact hs.trans (.one sm_ret)
      | panic c' T df s' =>
        show CallR D E ρ f xs st w (ev (.leave fn T df (.panicking c')) { s' with u := st.u })
        refine lv T df s' (.panicking c') fun cs => ?_
        obtain ⟨ρ', a', w', cs', todo, chain, hto, hp, hs⟩ := main cs
        have := hto.cs.none
        subst this
        refine ⟨ρ', a', w', { At b none a' todo with mode := .panicking chain }, _, hto, ⟨chain, rfl, hp⟩, rfl, rfl, rfl, rfl, rfl, ?_⟩
        rw [enter_eq hOK hf hb]
        exact hs

theorem evCall_ok (hOK : EOK E) (hB : BOK D E) (ih : RecOK D E ev) {args : List AV} {xs : List Value} (hR : Rel E (GE D E) ρ st w.heap) (hxs : VRs ρ args xs) : CallR D E ρ f xs st w (evCall E ev f args st) := by
  unfold evCall
  split
  · rename_i p hp
    unfold evCallP
    split
    · rename_i v hv
      exact (hB.plug f p hp args st v hv ρ w xs hR hxs).mono fun e w' ⟨x, ρ', h1, h2, h3⟩ => ⟨x, ρ', h1, h2, h3.mw, h3.u⟩
    · exact evCallN_ok hOK hB ih hR hxs
  · exact evCallN_ok hOK hB ih hR hxs

theorem results_none (fn : Func) (h : fn.results.toList = []) (tmps : Array Value) (w : World) : (results fn tmps).run E.P w = .ok undef w := by
  have : fn.results = #[] := by apply Array.ext'; simpa using h
  simp [results, this]
  rfl

theorem DRs.nil {xs : List Deferred} (h : DRs ρ [] xs) : xs = [] := by
  cases xs with
  | nil => rfl
  | cons _ _ => exact h.elim

theorem evCallD_ok (hOK : EOK E) (hB : BOK D E) (ih : RecOK D E ev) {args : List AV} {xs : List Value} {um : AMode} {mode : FrameMode} (hR : Rel E (GE D E) ρ st w.heap) (hxs : VRs ρ args xs) (hum : st.u = some um) (hmode : ModeR ρ um mode) :
    CallDR D E ρ f xs st mode w (evCallD E ev f args st) := by
  unfold evCallD
  split
  · trivial
  · rename_i fn hf
    split
    · trivial
    · rename_i c hb
      split
      · rename_i hres
        have hfn := hOK.fn _ _ hf
        let b : Frame := { (default : Frame) with fn := f, kind := .deferred }
        let a0 : Act := { tmps := ⟨xs⟩ ++ Array.replicate (fn.ntmps - xs.length) undef, defers := [] }
        have hg := hB.body f fn c hf hb
        have main : ∀ (c0 : Frame) cs, c0.mode = mode → CodeR D E ρ b none fn.ntmps [] st w (c0 :: cs) (lone (At b none a0 [.code c]) (c0 :: cs) w) (ev (.code none c (load .nil 0 args) [] f) st) := fun c0 cs hc0 =>
          ih.code none c _ [] f st ρ b none fn.ntmps [] a0 w (c0 :: cs) (enter_sit hB hf hb hR hxs (by rw [hum]; exact ⟨rfl, c0, cs, rfl, by rw [hc0]; exact hmode⟩)) hg trivial (fun h => by cases h) rfl ⟨fn, hfn⟩ _ (.code c)
        have fin : ∀ {c0 : Frame} {cs cs' : List Frame} {ρ' : Rho} {T : Tr AV} {df : List ADef} {s' : St} {a' : Act} {w' : World}, To D E ρ b fn.ntmps st w (c0 :: cs) ρ' T df s' a' w' cs' →
            ∃ um' m', s'.u = some um' ∧ cs' = { c0 with mode := m' } :: cs ∧ ModeR ρ' um' m' := by
          intro c0 cs cs' ρ' T df s' a' w' hto
          have hu := hto.u
          rw [hum] at hu
          cases hs : s'.u with
          | none => rw [hs] at hu; cases hu
          | some um' =>
            have hur := hto.sit.ur
            rw [hs] at hur
            obtain ⟨_, c1, cs1, he, hmr⟩ := hur
            rcases hto.cs with h | ⟨_, c2, cs2, m', h1, h2⟩
            · rw [h] at he
              injection he with he1 he2
              subst he1; subst he2
              exact ⟨um', c0.mode, rfl, by rw [h], hmr⟩
            · injection h1 with h1 h1'
              subst h1; subst h1'
              rw [h2] at he
              injection he with he1 he2
              subst he1
              exact ⟨um', m', rfl, h2, hmr⟩
        generalize hout : ev (.code none c (load .nil 0 args) [] f) st = out at main
        have norm : ∀ (T : Tr AV) (s' : St), (∀ (c0 : Frame) cs, c0.mode = mode → ∃ ρ' a' w' cs' fr, To D E ρ b fn.ntmps st w (c0 :: cs) ρ' T [] s' a' w' cs' ∧ fr.mode = .returning ∧ fr.defers = a'.defers ∧ fr.tmps = a'.tmps ∧ fr.fn = f ∧ fr.kind = .deferred ∧
            Steps E.P (lone (Frame.enter E.P f ⟨xs⟩ .deferred) (c0 :: cs) w) (lone fr cs' w')) → CallDR D E ρ f xs st mode w (.val undefA s') := by
          intro T s' hall c0 cs hc0
          obtain ⟨ρ', a', w', cs', fr, hto, h1, h2, h3, h4, h5, hs⟩ := hall c0 cs hc0
          obtain ⟨um', m', hs', hcs', hmr⟩ := fin hto
          have hd := hto.sit.df.nil
          refine ⟨.returned undef, m', w', fr, ⟨undef, ρ', um', rfl, hto.mw, hs', hmr⟩, ?_, h5, h1, by rw [h2, hd], fn, by rw [h4]; exact hfn, results_none fn hres _ _⟩
          rw [hcs'] at hs
          exact hs
        cases out with
        | no w => trivial
        | val v s => trivial
        | normal T df s' =>
          cases df with
          | cons _ _ => trivial
          | nil =>
            refine norm T s' fun c0 cs hc0 => ?_
            obtain ⟨ρ', a', w', cs', hto, hs⟩ := main c0 cs hc0
            refine ⟨ρ', a', w', cs', { At b none a' [] with mode := .returning }, hto, rfl, rfl, rfl, rfl, rfl, ?_⟩
            rw [enter_eq hOK hf hb]
            exact hs.trans (.one sm_end)
        | exit id T df s => trivial
        | ret T df s' =>
          cases df with
          | cons _ _ => trivial
          | nil =>
            refine norm T s' fun c0 cs hc0 => ?_
            obtain ⟨ρ', a', w', cs', k', hto, hs⟩ := main c0 cs hc0
            refine ⟨ρ', a', w', cs', { At b none a' (.code .ret :: k') with mode := .returning }, hto, rfl, rfl, rfl, rfl, rfl, ?_⟩
            rw [enter_eq hOK hf hb]
            exact hs.trans (.one sm_ret)
        | panic c' T df s' =>
          cases df with
          | cons _ _ => trivial
          | nil =>
            intro c0 cs hc0
            obtain ⟨ρ', a', w', cs', todo, chain, hto, hp, hs⟩ := main c0 cs hc0
            obtain ⟨um', m', hs', hcs', hmr⟩ := fin hto
            have hd := hto.sit.df.nil
            refine ⟨.panicked chain, m', w', { At b none a' todo with mode := .panicking chain }, ⟨chain, ρ', um', rfl, hp, hto.mw, hs', hmr⟩, ?_, rfl, rfl, hd, fn, hfn⟩
            rw [hcs'] at hs
            rw [enter_eq hOK hf hb]
            exact hs
      · trivial

/-! ### leaving a function -/
def ResF (tmps : Array Value) (g : ResultVar → Sem Value) : Prop := (∀ t, g (.tmp t) = pure (tmps.getD t undef)) ∧ ∀ ad t, g (.cell ad t) = do loadVar t (← asAddr (tmps.getD ad undef))

theorem resultA_ok (hOK : EOK E) (hR : Rel E (GE D E) ρ st w.heap) (hE : ER ρ T a.tmps) {r : ResultVar} {v : AV} (h : resultA E T st r = some v) :
    ∃ x, (∀ g, ResF a.tmps g → (g r).run E.P w = .ok x w) ∧ VR ρ v x := by
  cases r with
  | tmp t =>
    simp only [resultA] at h
    cases h
    exact ⟨_, fun g hg => by rw [hg.1 t]; rfl, VR.evalO (g := E.P.globals.size) hE (fun i hi => hR.glob i hi) (x := .tmp t) rfl⟩
  | cell ad t =>
    simp only [resultA] at h
    obtain ⟨b, ofs, x, h1, h2, h3⟩ := aLoad_ok hOK hR (VR.evalO (g := E.P.globals.size) hE (fun i hi => hR.glob i hi) (x := .tmp ad) rfl) h
    refine ⟨x, fun g hg => ?_, h3⟩
    have h1' : a.tmps.getD ad undef = .pointer (some ⟨b, ofs, none⟩) := h1
    rw [hg.2]
    simp only [h1', asAddr, Sem.run_bind, Sem.run_pure, Result.andThen_ok, h2]

theorem resultsL_ok (hOK : EOK E) (hR : Rel E (GE D E) ρ st w.heap) (hE : ER ρ T a.tmps) : ∀ {rs : List ResultVar} {vs : List AV}, resultsL E T st rs = some vs →
    ∃ xs, (∀ g, ResF a.tmps g → (rs.mapM g).run E.P w = .ok xs w) ∧ VRs ρ vs xs
  | [], vs, h => by simp only [resultsL] at h; cases h; exact ⟨[], fun _ _ => rfl, .nil⟩
  | r :: rs, vs, h => by
    simp only [resultsL] at h
    split at h
    · rename_i v vs' hv hvs
      cases h
      obtain ⟨x, h1, h2⟩ := resultA_ok hOK hR hE hv
      obtain ⟨xs, h3, h4⟩ := resultsL_ok hOK hR hE hvs
      refine ⟨x :: xs, fun g hg => ?_, .cons h2 h4⟩
      simp only [List.mapM_cons, Sem.run_bind, h1 g hg, Result.andThen_ok, h3 g hg, Sem.run_pure]
    · cases h

theorem resultsT_ok (hOK : EOK E) (hR : Rel E (GE D E) ρ st w.heap) (hE : ER ρ T a.tmps) {fn : Func} {v : AV} (h : resultsT E fn T st = some v) : ∃ x, (results fn a.tmps).run E.P w = .ok x w ∧ VR ρ v x := by
  unfold resultsT at h
  have key : ∀ {vs}, resultsL E T st fn.results.toList = some vs → ∃ xs : List Value, VRs ρ vs xs ∧ (results fn a.tmps).run E.P w = .ok (if h : (⟨xs⟩ : Array Value).size = 1 then (⟨xs⟩ : Array Value)[0] else .tuple ⟨xs⟩) w := by
    intro vs hvs
    obtain ⟨xs, h1, h2⟩ := resultsL_ok (w := w) hOK hR hE hvs
    refine ⟨xs, h2, ?_⟩
    unfold results
    rw [Array.mapM_eq_mapM_toList]
    simp only [Sem.run_bind, Sem.run_map]
    rw [h1]
    · rfl
    · exact ⟨fun _ => rfl, fun _ _ => rfl⟩
  split at h
  · rename_i v' hv
    cases h
    obtain ⟨xs, h1, h2⟩ := key hv
    cases h1 with
    | cons h3 h4 =>
    cases h4
    exact ⟨_, h2, h3⟩
  · rename_i vs hne hvs
    cases h
    obtain ⟨xs, h1, h2⟩ := key hvs
    have hlen : ¬ (⟨xs⟩ : Array Value).size = 1 := by
      intro hl
      have := h1.length
      cases vs with
      | nil => simp at this hl; omega
      | cons x vs => cases vs with
        | nil => exact hne x rfl
        | cons _ _ => simp at this hl; omega
    rw [dif_neg hlen] at h2
    exact ⟨_, h2, .tup h1⟩
  · cases h
end
end Ev
end

section
namespace Ev
open Go

section
variable {D : Array Oper → Bool} {E : Env} {ρ : Rho} {T : Tr AV} {a : Act} {b : Frame} {n : Nat} {df : List ADef} {st : St} {w : World} {cs : List Frame} {ev : Rec} {ar car : Option Nat} {k : List Item} {ops : Array Oper} {o : Oper} {f : FuncId}

theorem dropWhile_pan : ∀ {as : List APan} {ps : List PanicEntry}, PanR ρ as ps → ps.dropWhile (fun e => !e.goexit) = []
  | [], [], _ => rfl
  | _ :: as, p :: ps, h => by
    simp only [List.dropWhile_cons, h.1.2.2, Bool.not_false, if_true]
    exact dropWhile_pan h.2
  | [], _ :: _, h => h.elim
  | _ :: _, [], h => h.elim

theorem settle_ok {u : AMode} {m : FrameMode} (h : ModeR ρ u m) : ModeR ρ (settleA u) (settle m) := by
  cases u with
  | returning =>
    have : m = .returning := h
    subst this
    rfl
  | panicking c =>
    obtain ⟨l, rfl, hp⟩ := h
    cases c with
    | nil => cases l with
      | nil => exact ⟨[], rfl, trivial⟩
      | cons _ _ => exact hp.elim
    | cons p c =>
      cases l with
      | nil => exact hp.elim
      | cons q l =>
        obtain ⟨pv, pr⟩ := p
        obtain ⟨qv, qr, qg⟩ := q
        obtain ⟨⟨h1, h2, h3⟩, h4⟩ := hp
        simp only at h2 h3
        subst h2; subst h3
        cases qr with
        | true =>
          show settle (.panicking (⟨qv, true, false⟩ :: l)) = .returning
          simp only [settle, dropWhile_pan h4]
        | false => exact ⟨_, rfl, ⟨h1, rfl, rfl⟩, h4⟩

theorem raised_ok {u : AMode} {m : FrameMode} {c : List APan} {chain : List PanicEntry} (h : ModeR ρ u m) (hc : PanR ρ c chain) : ModeR ρ (raisedA u c) (raised m chain) := by
  cases u with
  | returning =>
    have : m = .returning := h
    subst this
    exact ⟨chain, rfl, hc⟩
  | panicking c0 =>
    obtain ⟨l, rfl, hp⟩ := h
    exact ⟨chain ++ l, rfl, hc.append hp⟩

theorem ModeR.notRun {u : AMode} {m : FrameMode} (h : ModeR ρ u m) : m ≠ .run := by
  cases u with
  | returning => have : m = .returning := h; subst this; simp
  | panicking c => obtain ⟨l, rfl, _⟩ := h; simp

/-- a block is given up, and turned -/
theorem Rel.killSet {G : Good} (hR : Rel E G ρ st w.heap) {i b e : Nat} {ob : AObj} (hi : st.h.get i = some ob) (hr : ρ i = some (b, e)) {new : Obj} {w' : World} (hw : w'.heap = w.heap.setIfInBounds b new) (hs : Same w w') :
    Mv E G ρ st w ρ (st.upd i none) w' := by
  obtain ⟨k1, k2⟩ := hR.kill hr
  have hk : ∀ c, c ≠ b → w'.heap[c]? = w.heap[c]? := fun c hc => by rw [hw]; exact Array.getElem?_setIfInBounds_ne (Ne.symm hc)
  have hsz : w'.heap.size = w.heap.size := by rw [hw]; simp
  have hfree : ∀ j e'', live (st.upd i none) j → ρ j ≠ some (b, e'') := by
    rintro j e'' ⟨x, hx⟩ hj
    rcases Tr.put_some (hx : (st.h.put bits i none).get j = some x) with ⟨_, h2⟩ | ⟨hne, hx'⟩
    · cases h2
    · exact hne (hR.inj j i b e'' e ⟨x, hx'⟩ ⟨ob, hi⟩ hj hr)
  refine ⟨⟨?_, k1.inj, k1.fresh, fun j c e' hj => by rw [hsz]; exact k1.below j c e' hj, k1.glob⟩, ⟨k2.mono, k2.old, k2.virt, k2.n, by rw [hsz]; exact Nat.le_refl _, ?_, fun j c e' hl hj => k2.dom j c e' hl hj⟩, hs, rfl⟩
  · intro j x c e' hx hj
    obtain ⟨oc, h1, h2⟩ := k1.obj j x c e' hx hj
    have hcb : c ≠ b := fun hcb => hfree j e' ⟨x, hx⟩ (hcb ▸ hj)
    exact ⟨oc, by rw [hk c hcb]; exact h1, h2⟩
  · intro c hc hn
    exact hk c (fun hcb => hn i e ⟨ob, hi⟩ (hcb ▸ hr))

theorem LeaveR.after {fn : Func} {mode mode' : FrameMode} {ρ' : Rho} {st' : St} {w' : World} {a' : Act} {out : Out} (hm : Mw E (GE D E) ρ st w ρ' st' w') (hu : st'.u = st.u) (ht : a'.tmps = a.tmps)
    (hstep : ∀ (fr : Frame) (cs : List Frame), fr.mode = mode → fr.defers = a.defers → fr.tmps = a.tmps → E.P.funcs[fr.fn]? = some fn → fr.kind = .normal →
      Steps E.P (lone fr cs w) (lone { fr with mode := mode', defers := a'.defers } cs w')) (h : LeaveR D E ρ' fn a' mode' st' w' out) : LeaveR D E ρ fn a mode st w out := by
  cases out with
  | val v s =>
    intro fr cs h1 h2 h3 h4 h5
    obtain ⟨x, ρ2, w2, fr2, hs, hf, hl, hv, hm2, hu2⟩ := h { fr with mode := mode', defers := a'.defers } cs rfl rfl (h3.trans ht.symm) h4 h5
    exact ⟨x, ρ2, w2, fr2, (hstep fr cs h1 h2 h3 h4 h5).trans hs, hf, hl, hv, hm.trans hm2, hu2.trans hu⟩
  | panic c T df s =>
    intro fr cs h1 h2 h3 h4 h5
    obtain ⟨x, ρ2, w2, fr2, hs, hf, hl, hv, hm2, hu2⟩ := h { fr with mode := mode', defers := a'.defers } cs rfl rfl (h3.trans ht.symm) h4 h5
    exact ⟨x, ρ2, w2, fr2, (hstep fr cs h1 h2 h3 h4 h5).trans hs, hf, hl, hv, hm.trans hm2, hu2.trans hu⟩
  | _ => trivial

theorem LeaveR.via {fn : Func} {mode : FrameMode} {st' : St} {u' : AMode} {cds : List Deferred} {out : Out} (hu : st'.u = st.u)
    (hfin : ∀ (fr : Frame) (cs : List Frame), fr.mode = mode → fr.defers = a.defers → fr.tmps = a.tmps → E.P.funcs[fr.fn]? = some fn → fr.kind = .normal →
      ∃ ρ' w' m', Mw E (GE D E) ρ st w ρ' st' w' ∧ ModeR ρ' u' m' ∧ Steps E.P (lone fr cs w) (lone { fr with mode := m', defers := cds } cs w'))
    (hl : ∀ ρ' w' m', Mw E (GE D E) ρ st w ρ' st' w' → ModeR ρ' u' m' → LeaveR D E ρ' fn { a with defers := cds } m' st' w' out) : LeaveR D E ρ fn a mode st w out := by
  cases out with
  | val v s =>
    intro fr cs h1 h2 h3 h4 h5
    obtain ⟨ρ', w', m', hm, hmr, hs0⟩ := hfin fr cs h1 h2 h3 h4 h5
    obtain ⟨x, ρ2, w2, fr2, hs, hf, hlv, hv, hm2, hu2⟩ := hl ρ' w' m' hm hmr { fr with mode := m', defers := cds } cs rfl rfl h3 h4 h5
    exact ⟨x, ρ2, w2, fr2, hs0.trans hs, hf, hlv, hv, hm.trans hm2, hu2.trans hu⟩
  | panic c T df s =>
    intro fr cs h1 h2 h3 h4 h5
    obtain ⟨ρ', w', m', hm, hmr, hs0⟩ := hfin fr cs h1 h2 h3 h4 h5
    obtain ⟨x, ρ2, w2, fr2, hs, hf, hlv, hv, hm2, hu2⟩ := hl ρ' w' m' hm hmr { fr with mode := m', defers := cds } cs rfl rfl h3 h4 h5
    exact ⟨x, ρ2, w2, fr2, hs0.trans hs, hf, hlv, hv, hm.trans hm2, hu2.trans hu⟩
  | _ => trivial

theorem evLeave_ok (hOK : EOK E) (ih : RecOK D E ev) {fn : Func} {u : AMode} {mode : FrameMode} (hR : Rel E (GE D E) ρ st w.heap) (hE : ER ρ T a.tmps) (hdf : DRs ρ df a.defers) (hmode : ModeR ρ u mode) : LeaveR D E ρ fn a mode st w (evLeave E ev fn T df u st) := by
  unfold evLeave
  split
  · -- nothing is deferred
    have hd := hdf.nil
    unfold evLeave0
    split
    · have hmr : mode = .returning := hmode
      subst hmr
      split
      · rename_i v hv
        obtain ⟨x, h1, h2⟩ := resultsT_ok (w := w) hOK hR hE hv
        intro fr cs g1 g2 g3 g4 g5
        exact ⟨x, ρ, w, fr, Steps.refl _ _, rfl, ⟨g1, by rw [g2, hd], g5, fn, g4, by rw [g3]; exact h1⟩, h2, Mw.refl hR, rfl⟩
      · trivial
    · rename_i c
      obtain ⟨chain, rfl, hp⟩ := hmode
      intro fr cs g1 g2 g3 g4 g5
      exact ⟨chain, ρ, w, fr, Steps.refl _ _, rfl, ⟨g1, by rw [g2, hd], fn, g4⟩, hp, Mw.refl hR, rfl⟩
  · rename_i d ds
    cases hda : a.defers with
    | nil => rw [hda] at hdf; exact hdf.elim
    | cons c cds =>
      rw [hda] at hdf
      obtain ⟨hdr, hds⟩ := hdf
      unfold DR at hdr
      split
      · rename_i r hr
        rw [hr] at hdr
        obtain ⟨rb, e, hrb, ht, hargs⟩ := hdr
        split
        · rename_i l hg
          obtain ⟨ob, hb, hor⟩ := hR.obj _ _ _ _ hg hrb
          cases hor with
          | deferred cl hcl =>
          have hgo := run_getObj (P := E.P) hb (fun _ _ _ h => by cases h)
          let w1 : World := { w with heap := w.heap.setIfInBounds rb (.deferred none) }
          have hrun : (Instr.takeDeferred rb).run E.P w = .ok cl w1 := by
            have : (setObj rb (.deferred none)).run E.P w = .ok () w1 := by
              unfold setObj; simp only [Sem.run, hb]; rfl
            simp only [Instr.takeDeferred, Sem.run_bind, hgo, Result.andThen_ok, this, Sem.run_pure]
          have hmv := hR.killSet (w' := w1) hg hrb rfl ⟨rfl, rfl, rfl⟩
          refine LeaveR.after (a' := { a with defers := cl ++ cds }) (mode' := mode) hmv.mw rfl rfl ?_ (ih.leave fn T (l ++ ds) u (st.upd r none) ρ { a with defers := cl ++ cds } mode w1 hmv.rel hE (DRs.append hcl hds) hmode)
          intro fr cs g1 g2 g3 g4 g5
          obtain ⟨ctt, cta⟩ := c
          simp only at ht hargs
          subst ht; subst hargs
          have := sm_takeDeferred (P := E.P) (cs := cs) (fr := fr) (ds := cds) (by rw [g1]; exact hmode.notRun) (by rw [g2, hda]) hrun
          refine .one ?_
          rw [this]
          congr 2
          rw [← g1]
        · trivial
      · rename_i hr
        rw [hr] at hdr
        obtain ⟨fv, first, cap, vs, h1, h2, h3⟩ := hdr
        split
        · rename_i g args s1 hcv
          obtain ⟨rfl, ys, hrun, hys⟩ := callV_enter hOK h1 h2 hcv w
          have hinv : (invoke (.fn fv cap) (first ++ ⟨vs⟩)).run E.P w = .ok (.enter g ⟨ys⟩) w := by
            simpa only [Deferred.ofValue, Sem.run_bind, Sem.run_pure, Result.andThen_ok] using hrun
          have hcd := ih.calld g args { s1 with u := some u } ρ w ys u mode (hR.withU _) hys rfl hmode
          have hstep : ∀ (fr : Frame) (cs : List Frame), fr.mode = mode → fr.defers = a.defers → step E.P (lone fr cs w) = .next (lone (Frame.enter E.P g ⟨ys⟩ .deferred) ({ fr with defers := cds } :: cs) w) := by
            intro fr cs g1 g2
            refine step_defer (d := c) (ds := cds) (fv := fv) (cap := cap) (by rw [g1]; exact hmode.notRun) (by rw [g2, hda]) (by rw [h3]) (by rw [h3]; exact hinv)
          generalize hout : ev (.calld g args) { s1 with u := some u } = out at hcd
          show LeaveR D E ρ fn a mode s1 w (contLeave ev fn T ds s1.u out)
          -- behind the deferred call
          cases out with
          | no wy => trivial
          | normal T' df' s' => trivial
          | exit id T' df' s' => trivial
          | ret T' df' s' => trivial
          | val v s' =>
            show LeaveR D E ρ fn a mode s1 w (match s'.u with | some u' => ev (.leave fn T ds (settleA u')) { s' with u := s1.u } | none => .no 525)
            cases hsu : s'.u with
            | none => trivial
            | some u' =>
              show LeaveR D E ρ fn a mode s1 w (ev (.leave fn T ds (settleA u')) { s' with u := s1.u })
              have fin : ∀ (fr : Frame) (cs : List Frame), fr.mode = mode → fr.defers = a.defers → fr.tmps = a.tmps → E.P.funcs[fr.fn]? = some fn → fr.kind = .normal →
                  ∃ ρ' w' m', Mw E (GE D E) ρ s1 w ρ' { s' with u := s1.u } w' ∧ ModeR ρ' (settleA u') m' ∧ Steps E.P (lone fr cs w) (lone { fr with mode := m', defers := cds } cs w') := by
                intro fr cs g1 g2 g3 g4 g5
                obtain ⟨e, um, w', frX, ⟨x, ρ', um', rfl, hmw, hs', hmr⟩, hcomes, hk, hgo⟩ := hcd { fr with defers := cds } cs g1
                rw [hsu] at hs'
                injection hs' with hs'
                subst hs'
                have hlast := step_going_returned (c := { { fr with defers := cds } with mode := um }) (cs := cs) hk hgo
                exact ⟨ρ', w', settle um, hmw.withL.withR _, settle_ok hmr, .head (hstep fr cs g1 g2) (Steps.trans hcomes (.one hlast))⟩
              exact LeaveR.via (st' := { s' with u := s1.u }) rfl fin fun ρ' w' m' hm hmr => ih.leave fn T ds _ _ ρ' { a with defers := cds } m' w' hm.rel (hE.mono hm.ext.mono) (hds.mono hm.ext.mono) hmr
          | panic pc T' df' s' =>
            show LeaveR D E ρ fn a mode s1 w (match s'.u with | some u' => ev (.leave fn T ds (raisedA u' pc)) { s' with u := s1.u } | none => .no 526)
            cases hsu : s'.u with
            | none => trivial
            | some u' =>
              show LeaveR D E ρ fn a mode s1 w (ev (.leave fn T ds (raisedA u' pc)) { s' with u := s1.u })
              have fin : ∀ (fr : Frame) (cs : List Frame), fr.mode = mode → fr.defers = a.defers → fr.tmps = a.tmps → E.P.funcs[fr.fn]? = some fn → fr.kind = .normal →
                  ∃ ρ' w' m', Mw E (GE D E) ρ s1 w ρ' { s' with u := s1.u } w' ∧ ModeR ρ' (raisedA u' pc) m' ∧ Steps E.P (lone fr cs w) (lone { fr with mode := m', defers := cds } cs w') := by
                intro fr cs g1 g2 g3 g4 g5
                obtain ⟨e, um, w', frX, ⟨chain, ρ', um', rfl, hp, hmw, hs', hmr⟩, hcomes, hk, hgo⟩ := hcd { fr with defers := cds } cs g1
                rw [hsu] at hs'
                injection hs' with hs'
                subst hs'
                have hlast := step_going_panicked (c := { { fr with defers := cds } with mode := um }) (cs := cs) hgo
                exact ⟨ρ', w', raised um chain, hmw.withL.withR _, raised_ok hmr hp, .head (hstep fr cs g1 g2) (Steps.trans hcomes (.one hlast))⟩
              exact LeaveR.via (st' := { s' with u := s1.u }) rfl fin fun ρ' w' m' hm hmr => ih.leave fn T ds _ _ ρ' { a with defers := cds } m' w' hm.rel (hE.mono hm.ext.mono) (hds.mono hm.ext.mono) hmr
        · trivial

/-! ### rounds -/
theorem round_tmps : ∀ (ps : List Tmp) (args : List AV) (xs : List Value) (T : Tr AV) (tmps : Array Value), ER ρ T tmps → VRs ρ args xs → (∀ t ∈ ps, t < tmps.size) →
    ER ρ ((ps.zip args).foldl (fun T p => T.put bits p.1 (some p.2)) T) ((ps.zip xs).foldl (fun (tmps : Array Value) (p : Tmp × Value) => tmps.setIfInBounds p.1 p.2) tmps) ∧
      ((ps.zip xs).foldl (fun (tmps : Array Value) (p : Tmp × Value) => tmps.setIfInBounds p.1 p.2) tmps).size = tmps.size
  | [], _, _, T, tmps, h, _, _ => by simpa using h
  | p :: ps, [], xs, T, tmps, h, hv, _ => by cases hv; simpa using h
  | p :: ps, x :: args, xs, T, tmps, h, hv, hb => by
    cases hv with
    | @cons _ y _ ys h1 h2 =>
    simp only [List.zip_cons_cons, List.foldl_cons]
    have hlt : p < tmps.size := hb p (List.mem_cons_self ..)
    obtain ⟨g1, g2⟩ := round_tmps ps args ys (T.put bits p (some x)) (tmps.setIfInBounds p y) (h.put hlt h1) h2 (fun t ht => by simpa using hb t (List.mem_cons_of_mem _ ht))
    exact ⟨g1, by rw [g2]; simp⟩

theorem roundTmps_eq (lp : Loop) (xs : List Value) : roundTmps lp xs = (lp.params.toList.zip xs).foldl (fun (tmps : Array Value) (p : Tmp × Value) => tmps.setIfInBounds p.1 p.2) lp.tmps := by
  unfold roundTmps
  rw [← Array.foldl_toList, Array.toList_zip]

/-- a round's end -/
theorem finRound_ok {l lb e : Nat} {s2 : St} {w2 : World} {a2 : Act} {todo : List Item} {j : Option Code} (hR : Rel E (GE D E) ρ s2 w2.heap) (hl : ρ l = some (lb, e)) (hbk : b.kind = .normal)
    (ht : (todo = [] ∧ j = none) ∨ (∃ k, todo = .code .ret :: k ∧ j = some .ret) ∨ (∃ id k, todo = .code (.exit id) :: k ∧ exitTo id k = none ∧ j = some (.exit id))) {u : Option AMode} {v : AV} {st' : St} (h : finRound l u j s2 = .val v st') :
    v = .bool j.isNone ∧ st'.u = u ∧ ∀ (c : Frame) (cs : List Frame), ∃ w', Steps E.P (lone (At b (some lb) a2 todo) (c :: cs) w2) (lone (c.finish (.bool j.isNone)) cs w') ∧ Mw E (GE D E) ρ s2 w2 ρ st' w' := by
  unfold finRound at h
  split at h
  · rename_i q0 q1 f1 T1 ps1 a1 b1 d1 hg
    cases h
    refine ⟨rfl, rfl, ?_⟩
    intro c cs
    obtain ⟨ob, hb, hor⟩ := hR.obj _ _ _ _ hg hl
    cases hor with
    | loop lp hlp =>
    have hgo := run_getObj (P := E.P) hb (fun _ _ _ h => by cases h)
    have hgp : ∀ c, j = some c → c = .ret ∨ ∃ id, c = .exit id := by
      intro c hc
      rcases ht with ⟨_, rfl⟩ | ⟨_, _, rfl⟩ | ⟨id, _, _, _, rfl⟩
      · cases hc
      · cases hc; exact .inl rfl
      · cases hc; exact .inr ⟨id, rfl⟩
    have hnew : OR E (GE D E) ρ e (.loop (if j.isNone then .ready else .done) j f1 T1 ps1 a1 b1 d1) (.loop { lp with state := if j.isNone then .ready else .done, pending := j }) :=
      .loop _ { hstate := rfl, hpend := rfl, hfn := hlp.hfn, tmps := hlp.tmps, hparams := hlp.hparams, hassign := hlp.hassign, hbody := hlp.hbody, defers := hlp.defers, goodA := hlp.goodA, goodB := hlp.goodB, inb := hlp.inb, goodP := hgp }
    obtain ⟨w', r1, r2⟩ := setObj_ok hR hl hg hb (fun _ _ _ h => by cases h) hnew
    have hrun : (Instr.endRound lb j).run E.P w2 = .ok (.bool j.isNone) w' := by
      simp only [Instr.endRound, Instr.getLoop, Sem.run_bind, hgo, Result.andThen_ok, Sem.run_pure, r1]
    exact ⟨w', .one (sm_leaveRound hbk ht hrun), r2.mw.withR u⟩
  · cases h

theorem evRound_ok (hOK : EOK E) (ih : RecOK D E ev) {l lb e : Nat} {args : List AV} {xs : List Value} (hR : Rel E (GE D E) ρ st w.heap) (hxs : VRs ρ args xs) (hl : ρ l = some (lb, e)) : RoundR D E ρ lb xs st w (evRound E ev l args st) := by
  unfold evRound
  split
  · rename_i q0 q1 f T ps assign body q2 hg
    obtain ⟨ob, hb, hor⟩ := hR.obj _ _ _ _ hg hl
    cases hor with
    | loop lp hlp =>
    split
    · trivial
    · rename_i fn hfn
      split
      · rename_i hlen
        have hlen' := Nat.eq_of_beq_eq_true hlen
        have hxl : xs.length = lp.params.size := by
          rw [← hxs.length, hlen', ← hlp.hparams]; simp
        have hF := hOK.fn _ _ hfn
        have hlpf : lp.fn = f := hlp.hfn
        let b : Frame := { (default : Frame) with fn := f, kind := .normal }
        let a0 : Act := { tmps := roundTmps lp xs, defers := [] }
        have hround : Frame.round lb lp.fn (roundTmps lp xs) lp.assign lp.body .normal = At b (some lb) a0 [.code assign, .beginRound, .code body] := by
          simp [Frame.round, At, b, a0, hlp.hfn, hlp.hassign, hlp.hbody]
        obtain ⟨ht1, ht2⟩ := round_tmps ps args xs T lp.tmps hlp.tmps hxs hlp.inb
        have heq : roundTmps lp xs = (ps.zip xs).foldl (fun (tmps : Array Value) (p : Tmp × Value) => tmps.setIfInBounds p.1 p.2) lp.tmps := by rw [roundTmps_eq, hlp.hparams]
        rw [← heq] at ht1 ht2
        have hga : goodC D E.P.globals.size lp.tmps.size assign = true := hlp.goodA
        have hgb : goodC D E.P.globals.size lp.tmps.size body = true := hlp.goodB
        have hsit : ∀ cs, Sit D E ρ b lp.tmps.size ((ps.zip args).foldl (fun T p => T.put bits p.1 (some p.2)) T) [] { st with u := none } a0 w cs := fun cs => ⟨hR.withU _, ht1, by rw [ht2]; exact Nat.le_refl _, trivial, rfl⟩
        have hass := fun cs => ih.code (some l) assign _ [] f { st with u := none } ρ b (some lb) lp.tmps.size [.beginRound, .code body] a0 w cs (hsit cs) hga ⟨e, hl⟩ (fun _ => rfl) rfl ⟨fn, hF⟩ _ (.code assign)
        generalize hout : ev (.code (some l) assign ((ps.zip args).foldl (fun T p => T.put bits p.1 (some p.2)) T) [] f) { st with u := none } = out at hass
        show RoundR D E ρ lb xs st w (contAssign ev l body f st.u out)
        cases out with
        | no wy => trivial
        | val v s => trivial
        | exit id T' df' s => trivial
        | ret T' df' s => trivial
        | panic c T' df' s => trivial
        | normal T1 df1 s1 =>
          unfold contAssign
          dsimp only
          split
          · rename_i p f0 T0 ps0 a0' b0 d0 hg1
            -- the round begins
            have hbeg : ∀ (c : Frame) (cs : List Frame), ∃ ρ1 a1 w1, To D E ρ b lp.tmps.size { st with u := none } w (c :: cs) ρ1 T1 df1 (s1.upd l (some (.loop .busy p f0 T0 ps0 a0' b0 d0))) a1 w1 (c :: cs) ∧
                Steps E.P (lone (At b (some lb) a0 [.code assign, .beginRound, .code body]) (c :: cs) w) (lone (At b (some lb) a1 [.code body]) (c :: cs) w1) := by
              intro c cs
              obtain ⟨ρ1, a1, w1, cs1, hto, hs⟩ := hass (c :: cs)
              have := hto.cs.none
              subst this
              have hl1 := hto.mw.ext.mono _ _ hl
              obtain ⟨ob1, hb1, hor1⟩ := hto.sit.rel.obj _ _ _ _ hg1 hl1
              cases hor1 with
              | loop lp1 hlp1 =>
              have hgo := run_getObj (P := E.P) hb1 (fun _ _ _ h => by cases h)
              have hnew : OR E (GE D E) ρ1 e (.loop .busy p f0 T0 ps0 a0' b0 d0) (.loop { lp1 with state := .busy }) :=
                .loop _ { hstate := rfl, hpend := hlp1.hpend, hfn := hlp1.hfn, tmps := hlp1.tmps, hparams := hlp1.hparams, hassign := hlp1.hassign, hbody := hlp1.hbody, defers := hlp1.defers, goodA := hlp1.goodA, goodB := hlp1.goodB, inb := hlp1.inb, goodP := hlp1.goodP }
              obtain ⟨w2, r1, r2⟩ := setObj_ok hto.sit.rel hl1 hg1 hb1 (fun _ _ _ h => by cases h) hnew
              have hrun : (Instr.beginRound lb).run E.P w1 = .ok () w2 := by
                simp only [Instr.beginRound, Instr.getLoop, Sem.run_bind, hgo, Result.andThen_ok, Sem.run_pure, r1, hlp1.hstate]
              have hto2 : To D E ρ1 b lp.tmps.size s1 w1 (c :: cs) ρ1 T1 df1 (s1.upd l (some (.loop .busy p f0 T0 ps0 a0' b0 d0))) a1 w2 (c :: cs) :=
                ⟨⟨r2.rel, hto.sit.er, hto.sit.n, hto.sit.df, hto.sit.ur⟩, r2.mw, .inl rfl, rfl⟩
              exact ⟨ρ1, a1, w2, hto.trans hto2, hs.trans (.one (sm_beginRound hrun))⟩
            have hbody := fun ρ1 a1 w1 cs (hs : Sit D E ρ1 b lp.tmps.size T1 df1 (s1.upd l (some (.loop .busy p f0 T0 ps0 a0' b0 d0))) a1 w1 cs) (hu : (s1.upd l (some (.loop .busy p f0 T0 ps0 a0' b0 d0))).u = none) (hl1 : ρ1 l = some (lb, e)) =>
              ih.code (some l) body T1 df1 f (s1.upd l (some (.loop .busy p f0 T0 ps0 a0' b0 d0))) ρ1 b (some lb) lp.tmps.size [] a1 w1 cs hs hgb ⟨e, hl1⟩ (fun _ => hu) rfl ⟨fn, hF⟩ _ (.code body)
            generalize ev (.code (some l) body T1 df1 f) (s1.upd l (some (.loop .busy p f0 T0 ps0 a0' b0 d0))) = out2 at hbody
            have whole : ∀ (c : Frame) (cs : List Frame), ∃ ρ1 a1 w1, To D E ρ b lp.tmps.size { st with u := none } w (c :: cs) ρ1 T1 df1 (s1.upd l (some (.loop .busy p f0 T0 ps0 a0' b0 d0))) a1 w1 (c :: cs) ∧ (s1.upd l (some (.loop .busy p f0 T0 ps0 a0' b0 d0))).u = none ∧
                Steps E.P (lone (At b (some lb) a0 [.code assign, .beginRound, .code body]) (c :: cs) w) (lone (At b (some lb) a1 [.code body]) (c :: cs) w1) ∧ CodeR D E ρ1 b (some lb) lp.tmps.size [] (s1.upd l (some (.loop .busy p f0 T0 ps0 a0' b0 d0))) w1 (c :: cs) (lone (At b (some lb) a1 [.code body]) (c :: cs) w1) out2 := by
              intro c cs
              obtain ⟨ρ1, a1, w1, hto, hs⟩ := hbeg c cs
              have hu1 := hto.uNone (ar := some l) (fun _ => rfl) rfl
              exact ⟨ρ1, a1, w1, hto, hu1, hs, hbody ρ1 a1 w1 (c :: cs) hto.sit hu1 (hto.mw.ext.mono _ _ hl)⟩
            have leave : ∀ (T2 : Tr AV) (df2 : List ADef) (s2 : St) (j : Option Code), (∀ (c : Frame) (cs : List Frame), ∃ ρ2 a2 w2 todo, To D E ρ b lp.tmps.size { st with u := none } w (c :: cs) ρ2 T2 df2 s2 a2 w2 (c :: cs) ∧
                ((todo = [] ∧ j = none) ∨ (∃ k, todo = .code .ret :: k ∧ j = some .ret) ∨ (∃ id k, todo = .code (.exit id) :: k ∧ exitTo id k = none ∧ j = some (.exit id))) ∧
                Steps E.P (lone (At b (some lb) a0 [.code assign, .beginRound, .code body]) (c :: cs) w) (lone (At b (some lb) a2 todo) (c :: cs) w2)) → RoundR D E ρ lb xs st w (finRound l st.u j s2) := by
              intro T2 df2 s2 j hall
              cases hfr : finRound l st.u j s2 with
              | val v st' =>
                refine ⟨lp, hb, hxl, fun c cs => ?_⟩
                obtain ⟨ρ2, a2, w2, todo, hto, htd, hs⟩ := hall c cs
                obtain ⟨rfl, hu', hfin⟩ := finRound_ok (b := b) (a2 := a2) hto.sit.rel (hto.mw.ext.mono _ _ hl) rfl htd hfr
                obtain ⟨w', hs2, hm2⟩ := hfin c cs
                exact ⟨.bool j.isNone, ρ2, w', by rw [hround]; exact hs.trans hs2, .bool _, hto.mw.withL.trans hm2, hu'⟩
              | panic pc T df s => unfold finRound at hfr; split at hfr <;> cases hfr
              | _ => trivial
            show RoundR D E ρ lb xs st w (contRound l st.u out2)
            cases out2 with
            | no wy => trivial
            | val v s => trivial
            | normal T2 df2 s2 =>
              refine leave T2 df2 s2 none fun c cs => ?_
              obtain ⟨ρ1, a1, w1, hto, hu1, hs, ρ2, a2, w2, cs2, hto2, hs2⟩ := whole c cs
              have h0 := hto2.cs; rw [hu1] at h0
              have := h0.none
              subst this
              exact ⟨ρ2, a2, w2, [], hto.trans hto2, .inl ⟨rfl, rfl⟩, hs.trans hs2⟩
            | ret T2 df2 s2 =>
              refine leave T2 df2 s2 (some .ret) fun c cs => ?_
              obtain ⟨ρ1, a1, w1, hto, hu1, hs, ρ2, a2, w2, cs2, k', hto2, hs2⟩ := whole c cs
              have h0 := hto2.cs; rw [hu1] at h0
              have := h0.none
              subst this
              exact ⟨ρ2, a2, w2, _, hto.trans hto2, .inr (.inl ⟨k', rfl, rfl⟩), hs.trans hs2⟩
            | exit id T2 df2 s2 =>
              refine leave T2 df2 s2 (some (.exit id)) fun c cs => ?_
              obtain ⟨ρ1, a1, w1, hto, hu1, hs, ρ2, a2, w2, cs2, k', hto2, he, hs2⟩ := whole c cs
              have h0 := hto2.cs; rw [hu1] at h0
              have := h0.none
              subst this
              exact ⟨ρ2, a2, w2, _, hto.trans hto2, .inr (.inr ⟨id, k', rfl, he, rfl⟩), hs.trans hs2⟩
            | panic pc T2 df2 s2 =>
              cases df2 with
              | cons _ _ => trivial
              | nil =>
                refine ⟨lp, hb, hxl, fun c cs => ?_⟩
                obtain ⟨ρ1, a1, w1, hto, hu1, hs, ρ2, a2, w2, cs2, todo, chain, hto2, hp, hs2⟩ := whole c cs
                have h0 := hto2.cs; rw [hu1] at h0
                have := h0.none
                subst this
                have hd := hto2.sit.df.nil
                have hlast := sm_panicRound (P := E.P) (b := b) (a := a2) (cs := cs) (w := w2) (l := lb) (todo := todo) (c := c) (chain := chain) hd ⟨fn, hF⟩
                exact ⟨chain, ρ2, w2, by rw [hround]; exact hs.trans (hs2.trans (.one hlast)), hp, ((hto.trans hto2).mw.withL).withR st.u, rfl⟩
          · trivial
      · trivial
  · trivial

/-- each step keeps the word -/
theorem step_ok (hOK : EOK E) (hB : BOK D E) (hm : E.P.follows .mixedOrders = true) (ih : RecOK D E ev) (hdr : DrawnOK D E ev) : RecOK D E (evalStep E ev) where
  code ar c T df f st ρ b car n k a w cs h hg har hu hbf hfn it hit := evCode_ok hOK hm ih hdr h hg har hu hbf hfn hit
  call f args st ρ w xs hR hxs := evCall_ok hOK hB ih hR hxs
  calld f args st ρ w xs um mode hR hxs hum hmode := evCallD_ok hOK hB ih hR hxs hum hmode
  leave fn T df u st ρ a mode w hR hE hdf hmode := evLeave_ok hOK ih hR hE hdf hmode
  round l args st ρ w xs lb e hR hxs hl := evRound_ok hOK ih hR hxs hl

theorem zero_ok : RecOK D E (ev := fun _ _ => .no 100) where
  code _ _ _ _ _ _ _ _ _ _ _ _ _ _ _ _ _ _ _ _ _ _ := trivial
  call _ _ _ _ _ _ _ _ := trivial
  calld _ _ _ _ _ _ _ _ _ _ _ _ := trivial
  leave _ _ _ _ _ _ _ _ _ _ _ _ _ := trivial
  round _ _ _ _ _ _ _ _ _ _ _ := trivial

/-- the evaluator is sound, if it is for drawn regions -/
theorem ev_ok (hOK : EOK E) (hB : BOK D E) (hm : E.P.follows .mixedOrders = true) (hdr : ∀ ev, RecOK D E ev → DrawnOK D E ev) : ∀ k, RecOK D E (Ev.ev E k)
  | 0 => zero_ok
  | k + 1 => step_ok hOK hB hm (ev_ok hOK hB hm hdr k) (hdr _ (ev_ok hOK hB hm hdr k))
end
end Ev
end
