/- The evaluator is sound. -/
import Derived.Test.YtkjajpfgdjfcoaaGreatDoorEf
import Derived.Test.YtkjajpfgdjfcoaaGreatDoorEe
import Derived.Test.YtkjajpfgdjfcoaaGreatDoorEa
set_option linter.unusedVariables false
set_option linter.unusedSimpArgs false
section
namespace Ev
open Go

section
variable {D : Array Oper → Bool} {E : Env} {b : Frame} {n : Nat} {car : Option Nat} {k : List Item} {cs : List Frame} {ev : Rec} {ops : Array Oper} {ρ0 ρ : Rho} {st0 st : St} {w0 w : World} {T T' : Tr AV} {df : List ADef} {a : Act}
  {listed : Array Bool} {Dn : List Nat} {vid : Nat → Option Nat} {o q : Oper} {i j : Nat} {m0 : Machine}

theorem forget_get : ∀ (L : List Oper) (T : Tr AV) {t : Tmp} {u : AV}, (forget T L).get t = some u → (u = .top ∧ ∃ o ∈ L, o.dst = some t) ∨ (T.get t = some u ∧ ∀ o ∈ L, o.dst ≠ some t)
  | [], T, t, u, h => .inr ⟨h, by simp⟩
  | o :: os, T, t, u, h => by
    rcases forget_get os (putT T o.dst .top) (h : (forget (putT T o.dst .top) os).get t = some u) with ⟨h1, q, hq, h2⟩ | ⟨h1, h2⟩
    · exact .inl ⟨h1, q, List.mem_cons_of_mem _ hq, h2⟩
    · rcases putT_get h1 with ⟨h3, h4⟩ | ⟨h3, h4⟩
      · exact .inl ⟨h4, o, List.mem_cons_self .., h3⟩
      · refine .inr ⟨h4, fun q hq => ?_⟩
        rcases List.mem_cons.1 hq with rfl | hq
        · exact h3
        · exact h2 q hq

theorem Game.forget (hF : Fix E n ops) (g : Game D E b n cs ops ρ0 st0 w0 df listed Dn vid T ρ st a w) : ER ρ (Ev.forget T ops.toList) a.tmps := by
  intro t u ht
  rcases forget_get _ _ ht with ⟨rfl, o, ho, hd⟩ | ⟨h1, h2⟩
  · obtain ⟨i, hi⟩ := List.getElem?_of_mem ho
    exact ⟨dst_lt (hF.all i o (by simpa using hi)) g.n hd, .top _⟩
  · refine g.er t u ?_
    rw [drop_out]
    · exact h1
    · intro hm
      obtain ⟨j, _, _, q, hq, hqd⟩ := mem_pdst.1 hm
      exact h2 q (by simpa using Array.mem_of_getElem? hq) hqd

theorem heavy_ok (hF : Fix E n ops) (ih : RecOK D E ev) (g : Game D E b n cs ops ρ0 st0 w0 df listed Dn vid T ρ st a w) (ho : ops[i]? = some o) (hi : i ∉ Dn) (hord : Ord ops (i :: Dn))
    (hready : ∀ e ∈ o.after, Region.binds .any e = true → listed.getD e.on false = true) {rs : List Nat}
    (hrd : ∀ j ∈ Dn, ∀ q, ops[j]? = some q → lightIn ops j q = true → reader q = true → hasEdge o j = true ∨ (j ∈ rs ∧ ∃ d, q.dst = some d)) {K : Kont} {l : List Nat}
    (hs0 : Steps E.P m0 (lone (At b car a (.inRegion ops (i :: l) :: k)) cs w))
    (hK : ∀ T' st' ρ' a' w', Game D E b n cs ops ρ0 st0 w0 df (listed.setIfInBounds i true) (i :: Dn) vid T' ρ' st' a' w' → Steps E.P m0 (lone (At b car a' (.inRegion ops l :: k)) cs w') → CodeR D E ρ0 b car n k st0 w0 cs m0 (K T' df st')) :
    CodeR D E ρ0 b car n k st0 w0 cs m0 (oneOpD E ev ops.toList (pick ops rs) o K T df st) := by
  have hop := hF.all i o ho
  have hgo : goodOp E.P.globals.size o = true := by unfold opOK at hop; simp only [Bool.and_eq_true] at hop; exact hop.1
  have hal := g.alike hF ho hready
  have hD : ∀ v x ρ' st' w', Mw E (GE D E) ρ st w ρ' st' w' → st'.u = st.u → VR ρ' v x → Steps E.P m0 (lone (At b car (a.put o.dst x) (.inRegion ops l :: k)) cs w') →
      CodeR D E ρ0 b car n k st0 w0 cs m0 (contD E ops.toList (pick ops rs) K (putT T o.dst v) df st') := by
    intro v x ρ' st' w' hm hmu hv hs
    unfold contD
    cases hrc : recheck E ops.toList (putT T o.dst v) st' (pick ops rs) with
    | false => trivial
    | true => exact hK _ _ _ _ _ (g.heavy hF ho hi hord hready hrd hm hmu hv hrc) hs
  have hP : ∀ c chain ρ' st' w' todo, Mw E (GE D E) ρ st w ρ' st' w' → st'.u = st.u → PanR ρ' c chain → Steps E.P m0 (lone { At b car a todo with mode := .panicking chain } cs w') →
      CodeR D E ρ0 b car n k st0 w0 cs m0 (.panic c (Ev.forget T ops.toList) df st') := by
    intro c chain ρ' st' w' todo hm hmu hp hs
    have hle := hm.ext.mono
    exact ⟨ρ', a, w', cs, todo, chain, ⟨⟨hm.rel, (g.forget hF).mono hle, g.n, g.df.mono hle, hmu ▸ g.ur.mono hle⟩, g.mw.trans hm, .inl rfl, by rw [hmu, g.u]⟩, hp, hs⟩
  unfold oneOpD
  cases hw : wantedA ops.toList o T with
  | none => trivial
  | some r =>
    have hwant := wantedA_ok (ops := ops) g.er (hal.wanted ▸ hw)
    cases r with
    | false =>
      have hs := sm_op_skip (P := E.P) (b := b) (ar := car) (a := a) (k := k) (cs := cs) (w := w) (ops := ops) (i := i) (rest := l) (by simp [ho, hwant])
      simp only [ho, Option.bind_some] at hs
      exact hD undefA undef ρ st w (Mw.refl g.mw.rel) rfl undefA_VR (hs0.trans (.one hs))
    | true =>
      show CodeR D E ρ0 b car n k st0 w0 cs m0 (contOpD E ev ops.toList (pick ops rs) o.dst T df K st (aOp E o T st))
      have hOp := aOp_ok hF.ok g.mw.rel g.er hgo
      have hd : (∀ d, aOp E o T st ≠ .defer d) → (∀ wy, aOp E o T st ≠ .no wy) → car = none ∨ ∀ c, o.op ≠ .defer c := by
        intro h1 h2
        right
        intro c hc
        rcases aOp_defer (E := E) (T := T) (st := st) hc with ⟨d, hd⟩ | ⟨wy, hd⟩
        · exact h1 d hd
        · exact h2 wy hd
      rw [← aOp_congr hal.same (goodOp_sel hgo)] at hOp
      generalize aOp E o T st = r at hOp hd ⊢
      cases r with
      | val v st' =>
        obtain ⟨x, w', ρ', hr, hv, hm⟩ := hOp
        have hs := sm_value (P := E.P) (b := b) (ar := car) (k := k) (cs := cs) (rest := l) ho hwant (hd (by simp) (by simp)) hr
        exact hD v x ρ' st' w' hm.mw hm.u hv (hs0.trans (.one hs))
      | skip st' =>
        obtain ⟨w', ρ', hr, hm⟩ := hOp
        have hs := sm_skipped (P := E.P) (b := b) (ar := car) (k := k) (cs := cs) (rest := l) ho hwant (hd (by simp) (by simp)) hr
        exact hD undefA undef ρ' st' w' hm.mw hm.u undefA_VR (hs0.trans (.one hs))
      | enter f args st1 =>
        obtain ⟨rfl, xs, hr, hxs⟩ := hOp
        have hs := sm_enter (P := E.P) (b := b) (ar := car) (k := k) (cs := cs) (rest := l) ho hwant (hd (by simp) (by simp)) hr
        show CodeR D E ρ0 b car n k st0 w0 cs m0 (contCallD E ops.toList (pick ops rs) o.dst T df K (ev (.call f args) st1))
        have hc := ih.call f args st1 ρ w xs g.mw.rel hxs
        generalize ev (.call f args) st1 = out at hc ⊢
        cases out with
        | val v st' =>
          obtain ⟨e, w', fr, ⟨x, ρ', rfl, hv, hm, hu'⟩, hcomes, _, hleave⟩ := hc (At b car a (.inRegion ops (i :: l) :: k) :: cs)
          have hlast := step_leave_returned (c := At b car a (.inRegion ops (i :: l) :: k)) (cs := cs) hleave
          have hf := finish_At b car a ops i l k x
          rw [ho] at hf
          rw [hf] at hlast
          exact hD v x ρ' st' w' hm hu' hv (hs0.trans (.head hs (Steps.trans hcomes (.one hlast))))
        | panic c T' df' st' =>
          obtain ⟨e, w', fr, ⟨chain, ρ', rfl, hp, hm, hu'⟩, hcomes, _, hleave⟩ := hc (At b car a (.inRegion ops (i :: l) :: k) :: cs)
          have hlast := step_leave_panicked (c := At b car a (.inRegion ops (i :: l) :: k)) (cs := cs) hleave
          rw [raise_At] at hlast
          exact hP c chain ρ' st' w' _ hm hu' hp (hs0.trans (.head hs (Steps.trans hcomes (.one hlast))))
        | _ => trivial
      | round l' args =>
        obtain ⟨lb, e, xs, hl, hxs, hr⟩ := hOp
        show CodeR D E ρ0 b car n k st0 w0 cs m0 (contCallD E ops.toList (pick ops rs) o.dst T df K (ev (.round l' args) st))
        have hc := ih.round l' args st ρ w xs lb e g.mw.rel hxs hl
        have hstep : ∀ lp, w.heap[lb]? = some (.loop lp) → xs.length = lp.params.size →
            step E.P (lone (At b car a (.inRegion ops (i :: l) :: k)) cs w) = .next (lone (Frame.round lb lp.fn (roundTmps lp xs) lp.assign lp.body .normal) (At b car a (.inRegion ops (i :: l) :: k) :: cs) w) := by
          intro lp hlp hlen
          refine sm_round ho hwant (hd (by simp) (by simp)) ?_
          rw [hr]
          have hgo := run_getObj (P := E.P) hlp (fun _ _ _ h => by cases h)
          simp only [Instr.yield, Instr.getLoop, Sem.run_bind, hgo, Result.andThen_ok, Sem.run_pure]
          have : ¬ ((⟨xs⟩ : Array Value).size ≠ lp.params.size) := by simp [hlen]
          simp only [this, if_false, Sem.run_pure]
          rfl
        generalize ev (.round l' args) st = out at hc ⊢
        cases out with
        | val v st' =>
          obtain ⟨lp, hlp, hlen, hc⟩ := hc
          obtain ⟨x, ρ', w', hsteps, hv, hm, hu'⟩ := hc (At b car a (.inRegion ops (i :: l) :: k)) cs
          have hf := finish_At b car a ops i l k x
          rw [ho] at hf
          rw [hf] at hsteps
          exact hD v x ρ' st' w' hm hu' hv (hs0.trans (.head (hstep lp hlp hlen) hsteps))
        | panic c T' df' st' =>
          obtain ⟨lp, hlp, hlen, hc⟩ := hc
          obtain ⟨chain, ρ', w', hsteps, hp, hm, hu'⟩ := hc (At b car a (.inRegion ops (i :: l) :: k)) cs
          rw [raise_At] at hsteps
          exact hP c chain ρ' st' w' _ hm hu' hp (hs0.trans (.head (hstep lp hlp hlen) hsteps))
        | _ => trivial
      | defer d => trivial
      | recover => trivial
      | panic v st1 =>
        obtain ⟨rfl, x, hr, hv⟩ := hOp
        have hs := sm_panic (P := E.P) (b := b) (ar := car) (k := k) (cs := cs) (rest := l) ho hwant (hd (by simp) (by simp)) hr
        exact hP [⟨v, false⟩] [{ v := x, recovered := false }] ρ st1 w _ (Mw.refl g.mw.rel) rfl ⟨⟨hv, rfl, rfl⟩, trivial⟩ (hs0.trans (.one hs))
      | no wy => trivial
end
end Ev
end

section
namespace Ev
open Go

section
variable {D : Array Oper → Bool} {E : Env} {b : Frame} {n : Nat} {car : Option Nat} {k : List Item} {cs : List Frame} {ev : Rec} {ops : Array Oper} {ρ0 ρ : Rho} {st0 st : St} {w0 w : World} {T T' : Tr AV} {df : List ADef} {a : Act}
  {listed : Array Bool} {Dn : List Nat} {vid : Nat → Option Nat} {o q : Oper} {i j : Nat} {m0 : Machine}

theorem go_none (h : Region.ready .any ops listed = []) : ∀ (fuel t : Nat), Region.linearise.go .any ops fuel t listed [] = []
  | 0, _ => rfl
  | fuel + 1, t => by
    simp only [Region.linearise.go]
    change (match (Region.ready .any ops listed)[t % (Region.ready .any ops listed).length]? with
      | some i => Region.linearise.go .any ops fuel (t / (Region.ready .any ops listed).length) (listed.setIfInBounds i true) [i]
      | none => [].reverse) = []
    rw [h]; rfl

theorem go_some (h : Region.ready .any ops listed ≠ []) (fuel t : Nat) : ∃ i t', i ∈ Region.ready .any ops listed ∧ Region.linearise.go .any ops (fuel + 1) t listed [] = i :: Region.linearise.go .any ops fuel t' (listed.setIfInBounds i true) [] := by
  simp only [Region.linearise.go]
  change ∃ i t', i ∈ Region.ready .any ops listed ∧ (match (Region.ready .any ops listed)[t % (Region.ready .any ops listed).length]? with
      | some i => Region.linearise.go .any ops fuel (t / (Region.ready .any ops listed).length) (listed.setIfInBounds i true) [i]
      | none => [].reverse) = _
  cases hi : (Region.ready .any ops listed)[t % (Region.ready .any ops listed).length]? with
  | none =>
    cases hr : Region.ready .any ops listed with
    | nil => exact absurd hr h
    | cons x xs =>
      rw [hr] at hi
      have hlt : t % (x :: xs).length < (x :: xs).length := Nat.mod_lt _ (by simp)
      simp at hi
      simp at hlt
      omega
  | some i =>
    refine ⟨i, t / (Region.ready .any ops listed).length, List.mem_of_getElem? hi, ?_⟩
    dsimp only
    rw [linearise_go_acc, List.reverse_singleton, List.singleton_append]

def unl (listed : Array Bool) : Nat := listed.toList.count false

theorem unl_set (h : listed.getD i true = false) : unl (listed.setIfInBounds i true) + 1 = unl listed := by
  have hlt : i < listed.size := by
    rcases Nat.lt_or_ge i listed.size with h' | h'
    · exact h'
    · simp [Array.getElem?_eq_none h'] at h
  have hg : listed.toList[i]'(by simpa using hlt) = false := by simpa [hlt] using h
  unfold unl
  have e : (listed.setIfInBounds i true).toList = listed.toList.set i true := by simp
  rw [e]
  have key : ∀ (l : List Bool) (i : Nat) (h : i < l.length), l[i] = false → (l.set i true).count false + 1 = l.count false := by
    intro l
    induction l with
    | nil => intro i h; simp at h
    | cons x l ih =>
      intro i h hx
      cases i with
      | zero => simp at hx; subst hx; simp
      | succ i =>
        simp at hx h
        simp only [List.set_cons_succ, List.count_cons]
        have := ih i h hx
        omega
  exact key _ i (by simpa using hlt) hg

theorem unl_pos (h : listed.getD i true = false) : 0 < unl listed := by have := unl_set h; omega

/-- a ready one, and what it says -/
theorem ready_some (hne : Region.ready .any ops listed ≠ []) {fuel : Nat} (hf : unl listed ≤ fuel) (t : Nat) :
    ∃ i t' f', fuel = f' + 1 ∧ unl (listed.setIfInBounds i true) ≤ f' ∧ listed.getD i false = false ∧ (∃ o, ops[i]? = some o ∧ ∀ e ∈ o.after, Region.binds .any e = true → listed.getD e.on false = true) ∧
      Region.linearise.go .any ops fuel t listed [] = i :: Region.linearise.go .any ops f' t' (listed.setIfInBounds i true) [] := by
  have hpos : 0 < unl listed := by
    cases hr : Region.ready .any ops listed with
    | nil => exact absurd hr hne
    | cons x xs => exact unl_pos (mem_ready.1 (hr ▸ List.mem_cons_self .. : x ∈ Region.ready .any ops listed)).1
  obtain ⟨f', rfl⟩ : ∃ f', fuel = f' + 1 := ⟨fuel - 1, by omega⟩
  obtain ⟨i, t', hi, he⟩ := go_some hne f' t
  obtain ⟨h1, o, h2, h3⟩ := mem_ready.1 hi
  have hs := unl_set h1
  refine ⟨i, t', f', rfl, by omega, ?_, ⟨o, h2, h3⟩, he⟩
  cases hl : listed.getD i false with
  | false => rfl
  | true =>
    have hlt : i < listed.size := by
      rcases Nat.lt_or_ge i listed.size with h' | h'
      · exact h'
      · simp [Array.getElem?_eq_none h'] at h1
    simp [hlt] at hl h1
    rw [hl] at h1; cases h1

theorem Game.exists_ready (g : Game D E b n cs ops ρ0 st0 w0 df listed Dn vid T ρ st a w) (h : ∃ i ∈ Dn, listed.getD i false = false) : Region.ready .any ops listed ≠ [] := by
  obtain ⟨i, hi, hu, o, ho, he⟩ := g.ord.ready h
  have : i ∈ Region.ready .any ops listed := by
    refine mem_ready.2 ⟨?_, o, ho, he⟩
    have hlt : i < listed.size := by rw [g.size]; exact lt_of_get ho
    simpa [hlt] using hu
  intro hn; rw [hn] at this; cases this

theorem memN_iff {l : List Nat} : memN i l = true ↔ i ∈ l := by
  unfold memN
  rw [List.any_eq_true]
  constructor
  · rintro ⟨x, hx, h⟩; rw [Nat.eq_of_beq_eq_true h]; exact hx
  · intro h; exact ⟨i, h, by simp⟩

/-- all is done: the machine catches up -/
theorem game_nil (hF : Fix E n ops) (hall : ∀ i, i < ops.size → i ∈ Dn) : ∀ (fuel t : Nat) (listed : Array Bool) (vid : Nat → Option Nat) (ρ : Rho) (a : Act) (w : World),
    Game D E b n cs ops ρ0 st0 w0 df listed Dn vid T ρ st a w → unl listed ≤ fuel → Steps E.P m0 (lone (At b car a (.inRegion ops (Region.linearise.go .any ops fuel t listed []) :: k)) cs w) →
    CodeR D E ρ0 b car n k st0 w0 cs m0 (.normal T df st) := by
  intro fuel
  induction fuel with
  | zero =>
    intro t listed vid ρ a w g hf hs
    by_cases hu : ∃ i ∈ Dn, listed.getD i false = false
    · obtain ⟨_, _, _, he, _⟩ := ready_some (g.exists_ready hu) hf t
      cases he
    · have hX : pdst ops Dn listed = [] := by
        rw [List.eq_nil_iff_forall_not_mem]
        intro t ht
        obtain ⟨i, hi, hiu, _⟩ := mem_pdst.1 ht
        exact hu ⟨i, hi, hiu⟩
      have her := g.er
      rw [hX] at her
      exact ⟨ρ, a, w, cs, ⟨⟨g.mw.rel, her, g.n, g.df, g.ur⟩, g.mw, .inl rfl, by rw [g.u]⟩, hs.trans (.one sm_region_end)⟩
  | succ fuel ih =>
    intro t listed vid ρ a w g hf hs
    by_cases hu : ∃ i ∈ Dn, listed.getD i false = false
    · obtain ⟨i, t', f', he, hf', hiu, ⟨o, ho, hready⟩, hgo⟩ := ready_some (g.exists_ready hu) hf t
      cases he
      rw [hgo] at hs
      obtain ⟨ρ', a', w', hstep, g'⟩ := g.pend_step (car := car) (k := k) hF ho (hall i (lt_of_get ho)) hiu hready (Region.linearise.go .any ops fuel t' (listed.setIfInBounds i true) [])
      exact ih t' _ vid ρ' a' w' g' hf' (hs.trans (.one hstep))
    · have hX : pdst ops Dn listed = [] := by
        rw [List.eq_nil_iff_forall_not_mem]
        intro t ht
        obtain ⟨i, hi, hiu, _⟩ := mem_pdst.1 ht
        exact hu ⟨i, hi, hiu⟩
      have her := g.er
      rw [hX] at her
      have hr : Region.ready .any ops listed = [] := by
        rw [List.eq_nil_iff_forall_not_mem]
        intro i hi
        obtain ⟨h1, o, ho, _⟩ := mem_ready.1 hi
        have hlt : i < listed.size := by rw [g.size]; exact lt_of_get ho
        exact hu ⟨i, hall i (lt_of_get ho), by simpa [hlt] using h1⟩
      rw [go_none hr] at hs
      exact ⟨ρ, a, w, cs, ⟨⟨g.mw.rel, her, g.n, g.df, g.ur⟩, g.mw, .inl rfl, by rw [g.u]⟩, hs.trans (.one sm_region_end)⟩
end
end Ev
end

section
namespace Ev
open Go

section
variable {D : Array Oper → Bool} {E : Env} {b : Frame} {n : Nat} {car : Option Nat} {k : List Item} {cs : List Frame} {ev : Rec} {ops : Array Oper} {ρ0 ρ : Rho} {st0 st : St} {w0 w : World} {T T' : Tr AV} {df : List ADef} {a : Act}
  {listed : Array Bool} {Dn : List Nat} {vid : Nat → Option Nat} {o q : Oper} {i j : Nat} {m0 : Machine}

theorem chk_cons {r : Option (List Nat)} {rest : List (Nat × Option (List Nat))} (h : chk ops Dn ((i, r) :: rest) = true) :
    ∃ o, ops[i]? = some o ∧ i ∉ Dn ∧ (∀ e ∈ o.after, Region.binds .any e = true → e.on ∈ Dn) ∧ chk ops (i :: Dn) rest = true ∧ (r = none → lightIn ops i o = true) ∧
      (∀ rs, r = some rs → (∀ p ∈ rest, ∃ oq, ops[p.1]? = some oq ∧ ∃ e ∈ oq.after, Region.binds .any e = true ∧ e.on ∉ Dn) ∧
        (∀ j ∈ Dn, ∀ q, ops[j]? = some q → lightIn ops j q = true → reader q = true → hasEdge o j = true ∨ (j ∈ rs ∧ ∃ d, q.dst = some d))) := by
  simp only [chk] at h
  cases ho : ops[i]? with
  | none => rw [ho] at h; simp at h
  | some o =>
    rw [ho] at h
    simp only [Bool.and_eq_true, Bool.not_eq_true'] at h
    obtain ⟨⟨⟨h1, h2⟩, h3⟩, h4⟩ := h
    refine ⟨o, rfl, fun hm => ?_, ?_, h4, ?_, ?_⟩
    · rw [memN_iff.2 hm] at h1; cases h1
    · intro e he hb
      rw [List.all_eq_true] at h2
      have := h2 e (by simpa using he)
      rw [hb] at this
      simpa [memN_iff] using this
    · rintro rfl; exact h3
    · rintro rs rfl
      simp only [Bool.and_eq_true, List.all_eq_true] at h3
      refine ⟨fun p hp => ?_, fun j hj q hq hl hr => ?_⟩
      · have := h3.1 p hp
        cases hoq : ops[p.1]? with
        | none => rw [hoq] at this; cases this
        | some oq =>
          rw [hoq] at this
          simp only [List.any_eq_true, Bool.and_eq_true, Bool.not_eq_true'] at this
          obtain ⟨e, he, hb, hm⟩ := this
          exact ⟨oq, rfl, e, by simpa using he, hb, fun hmem => by rw [memN_iff.2 hmem] at hm; cases hm⟩
      · have := h3.2 j hj
        rw [hq] at this
        simp only [hl, hr, Bool.not_true, Bool.false_or, Bool.or_false, Bool.or_eq_true, Bool.and_eq_true] at this
        rcases this with h | ⟨h, hd⟩
        · exact .inl h
        · refine .inr ⟨memN_iff.1 h, ?_⟩
          cases hqd : q.dst with
          | none => rw [hqd] at hd; cases hd
          | some d => exact ⟨d, rfl⟩

theorem chk_all : ∀ {pl : List (Nat × Option (List Nat))} {Dn : List Nat}, chk ops Dn pl = true → ∀ i, i < ops.size → i ∈ Dn ∨ ∃ p ∈ pl, p.1 = i
  | [], Dn, h, i, hi => by
    simp only [chk, List.all_eq_true] at h
    exact .inl (memN_iff.1 (h i (List.mem_range.2 hi)))
  | (x, r) :: rest, Dn, h, i, hi => by
    obtain ⟨o, _, _, _, h4, _⟩ := chk_cons h
    rcases chk_all h4 i hi with h | ⟨p, hp, he⟩
    · rcases List.mem_cons.1 h with rfl | h
      · exact .inr ⟨(i, r), List.mem_cons_self .., rfl⟩
      · exact .inl h
    · exact .inr ⟨p, List.mem_cons_of_mem _ hp, he⟩

theorem game_ok (hF : Fix E n ops) (ih : RecOK D E ev) : ∀ (pl : List (Nat × Option (List Nat))) (Dn : List Nat), chk ops Dn pl = true → ∀ (fuel t : Nat) (listed : Array Bool) (vid : Nat → Option Nat) (T : Tr AV) (ρ : Rho) (st : St) (a : Act) (w : World),
    Game D E b n cs ops ρ0 st0 w0 df listed Dn vid T ρ st a w → unl listed ≤ fuel → Steps E.P m0 (lone (At b car a (.inRegion ops (Region.linearise.go .any ops fuel t listed []) :: k)) cs w) →
    CodeR D E ρ0 b car n k st0 w0 cs m0 (runOpsD E ev ops.toList (toOps ops pl) T df st) := by
  intro pl
  induction pl with
  | nil =>
    intro Dn hchk fuel t listed vid T ρ st a w g hf hs
    refine game_nil hF (fun i hi => ?_) fuel t listed vid ρ a w g hf hs
    rcases chk_all hchk i hi with h | ⟨p, hp, _⟩
    · exact h
    · cases hp
  | cons p rest ihp =>
    obtain ⟨i, r⟩ := p
    intro Dn hchk fuel t listed vid T ρ st a w g hf hs
    obtain ⟨o, ho, hi, hedge, hchk', hlight, hheavy⟩ := chk_cons hchk
    have hord : Ord ops (i :: Dn) := ⟨⟨hi, o, ho, hedge⟩, g.ord⟩
    have hgo : goodOp E.P.globals.size o = true := by have := hF.all i o ho; unfold opOK at this; simp only [Bool.and_eq_true] at this; exact this.1
    cases r with
    | none =>
      have hl := hlight rfl
      have e : toOps ops ((i, none) :: rest) = (o, none) :: toOps ops rest := by simp [toOps, ho]
      rw [e]
      show CodeR D E ρ0 b car n k st0 w0 cs m0 (oneLightD E ops.toList o (runOpsD E ev ops.toList (toOps ops rest)) T df st)
      have hal : ∀ v, Alike ops o T (putT T o.dst v) := fun v => Alike.putT fun t ht => by
        cases hlk : looks ops o t with
        | false => rfl
        | true =>
          rcases hF.p1 ho ho (.inl hl) ht hlk with h | ⟨h, _⟩
          · obtain ⟨e, h1, h2, h3⟩ := hasEdge_spec h
            exact absurd (h3 ▸ hedge e h1 h2) hi
          · rw [hl] at h; cases h
      have hput : ∀ v d u, o.dst = some d → (putT T o.dst v).get d = some u → u = v := by
        intro v d u hd hu
        rcases putT_get hu with ⟨_, h⟩ | ⟨h, _⟩
        · exact h
        · exact absurd hd h
      have hfr := g.mw.rel.fresh st.n (Nat.le_refl _)
      unfold oneLightD
      cases hw : wantedA ops.toList o T with
      | none => trivial
      | some r =>
        cases r with
        | false =>
          exact ihp _ hchk' fuel t listed _ _ ρ st a w (g.light hF ho hi hl hord (vi := none) g.mw rfl (.inl ⟨(hal undefA).wanted ▸ hw, rfl, hput undefA⟩) (fun _ _ _ _ h => h) (fun id _ h => ⟨h, rfl⟩) (fun _ _ _ _ h => by cases h)) hf hs
        | true =>
          show CodeR D E ρ0 b car n k st0 w0 cs m0 (contLight o.dst T df (runOpsD E ev ops.toList (toOps ops rest)) (aOp E o T st))
          cases hres : aOp E o T st with
          | val v st' =>
            cases ha : isAlloc o with
            | false =>
              have := light_state (lightIn_light hl) ha hres
              subst this
              exact ihp _ hchk' fuel t listed _ _ ρ _ a w (g.light hF ho hi hl hord (vi := none) g.mw rfl (.inr ⟨(hal v).wanted ▸ hw, v, hput v, .inl ⟨rfl, ha, by rw [← aOp_congr (hal v).same (goodOp_sel hgo)]; exact hres⟩⟩)
                (fun _ _ _ _ h => h) (fun id _ h => ⟨h, rfl⟩) (fun _ _ _ _ h => by cases h)) hf hs
            | true =>
              cases hall : allocOf E o T with
              | none =>
                obtain ⟨wy, hno⟩ := alloc_none (st := st) ha hall
                rw [hno] at hres; cases hres
              | some c =>
                obtain ⟨cs', el, l⟩ := c
                have hform := alloc_form (E := E) (T := T) (st := st) ha
                rw [hall] at hform
                dsimp only at hform
                rw [hform] at hres
                cases hres
                refine ihp _ hchk' fuel t listed _ _ ρ _ a w (g.light hF ho hi hl hord (vi := some st.n) ⟨g.mw.rel.virt _, g.mw.ext.trans (Ext.virtual g.mw.rel _), g.mw.same⟩ rfl
                  (.inr ⟨(hal _).wanted ▸ hw, mkA l st.n, hput _, .inr ⟨st.n, cs', el, l, rfl, (hal _).alloc (goodOp_sel hgo) ▸ hall, rfl, hfr.1, g.mw.ext.n, Nat.lt_succ_self _, fun x hx => ?_⟩⟩) ?_ ?_ ?_) hf hs
                · rcases new_get hx with ⟨_, h⟩ | ⟨h, _⟩
                  · exact h
                  · exact absurd rfl h
                · intro q u hq hnq hv
                  exact light_new hq hnq hfr.2 hv
                · intro id hn hlt
                  refine ⟨Nat.lt_succ_of_lt hlt, ?_⟩
                  show (st.h.put bits st.n _).get id = _
                  exact Tr.get_put_ne _ _ _ _ _ (by omega)
                · intro j hj hju id h1 h2
                  cases h1
                  have := (g.vnone hj hju h2).2.2
                  omega
          | _ => trivial
    | some rs =>
      obtain ⟨hlater, hrd⟩ := hheavy rs rfl
      have e : toOps ops ((i, some rs) :: rest) = (o, some (pick ops rs)) :: toOps ops rest := by simp [toOps, ho]
      rw [e]
      show CodeR D E ρ0 b car n k st0 w0 cs m0 (oneOpD E ev ops.toList (pick ops rs) o (runOpsD E ev ops.toList (toOps ops rest)) T df st)
      clear hord
      induction fuel generalizing t listed vid ρ a w with
      | zero =>
        have hne : Region.ready .any ops listed ≠ [] := by
          by_cases hu : ∃ j ∈ Dn, listed.getD j false = false
          · exact g.exists_ready hu
          · have : i ∈ Region.ready .any ops listed := by
              refine mem_ready.2 ⟨?_, o, ho, fun e he hb => ?_⟩
              · have hlt : i < listed.size := by rw [g.size]; exact lt_of_get ho
                cases h : listed.getD i false with
                | false => simpa [hlt] using h
                | true => exact absurd (g.sub i h) hi
              · cases h : listed.getD e.on false with
                | true => rfl
                | false => exact absurd ⟨_, hedge e he hb, h⟩ hu
            intro hn; rw [hn] at this; cases this
        obtain ⟨_, _, _, he, _⟩ := ready_some hne hf t
        cases he
      | succ fuel ihf =>
        have hne : Region.ready .any ops listed ≠ [] := by
          by_cases hu : ∃ j ∈ Dn, listed.getD j false = false
          · exact g.exists_ready hu
          · have : i ∈ Region.ready .any ops listed := by
              refine mem_ready.2 ⟨?_, o, ho, fun e he hb => ?_⟩
              · have hlt : i < listed.size := by rw [g.size]; exact lt_of_get ho
                cases h : listed.getD i false with
                | false => simpa [hlt] using h
                | true => exact absurd (g.sub i h) hi
              · cases h : listed.getD e.on false with
                | true => rfl
                | false => exact absurd ⟨_, hedge e he hb, h⟩ hu
            intro hn; rw [hn] at this; cases this
        obtain ⟨i', t', f', he, hf', hiu, ⟨o', ho', hready⟩, hgo'⟩ := ready_some hne hf t
        cases he
        rw [hgo'] at hs
        by_cases hin : i' ∈ Dn
        · obtain ⟨ρ', a', w', hstep, g'⟩ := g.pend_step (car := car) (k := k) hF ho' hin hiu hready (Region.linearise.go .any ops fuel t' (listed.setIfInBounds i' true) [])
          exact ihf t' _ vid ρ' a' w' g' hf' (hs.trans (.one hstep))
        · have hii : i' = i := by
            rcases chk_all hchk i' (lt_of_get ho') with h | ⟨p, hp, hpe⟩
            · exact absurd h hin
            · rcases List.mem_cons.1 hp with rfl | hp
              · exact hpe.symm
              · obtain ⟨oq, hoq, e, he, hb, hn⟩ := hlater p hp
                rw [hpe, ho'] at hoq
                cases hoq
                exact absurd (g.sub _ (hready e he hb)) hn
          subst hii
          rw [ho] at ho'
          cases ho'
          exact heavy_ok hF ih g ho hi ⟨⟨hi, o, ho, hedge⟩, g.ord⟩ hready hrd hs (fun T' st' ρ' a' w' g' hs' => ihp _ hchk' fuel t' _ vid T' ρ' st' a' w' g' hf' hs')

theorem drawn_ok (hOK : EOK E) (ih : RecOK planOK E ev) : DrawnOK planOK E ev := by
  intro ops t n T df st ρ b ar car k a w cs hD hall h har hu
  unfold planOK at hD
  simp only [Bool.and_eq_true] at hD
  obtain ⟨hchk, hpair⟩ := hD
  have hF : Fix E n ops := by
    refine ⟨hOK, fun i j oi oj hi hj => ?_, fun i o ho => ?_⟩
    · simp only [List.all_eq_true, List.mem_range] at hpair
      have := hpair i (lt_of_get hi) j (lt_of_get hj)
      rw [hi, hj] at this
      exact this
    · exact (Array.all_eq_true_iff_forall_mem.1 hall) o (Array.mem_of_getElem? ho)
  have hrep : ∀ i, (Array.replicate ops.size false).getD i false = false := by
    intro i
    by_cases hi : i < ops.size
    · simp [hi]
    · simp [hi]
  refine game_ok hF ih (planI ops) [] hchk ops.size t (Array.replicate ops.size false) (fun _ => none) T ρ st a w ⟨Mw.refl h.rel, h.er, h.n, h.df, rfl, h.ur, by simp, trivial, fun i hi => ?_, fun i hi => ?_, fun i j id hi => ?_⟩ ?_ (Steps.refl (P := E.P) _)
  · rw [hrep] at hi; cases hi
  · cases hi
  · cases hi
  · unfold unl; simp
end
end Ev
end

section
namespace Ev
open Go

/-- THE EVALUATOR IS SOUND -/
theorem ev_sound {E : Env} (hOK : EOK E) (hB : BOK planOK E) (hm : E.P.follows .mixedOrders = true) (k : Nat) : RecOK planOK E (ev E k) :=
  ev_ok hOK hB hm (fun _ ih => drawn_ok hOK ih) k
end Ev
end

section
namespace Ev
open Go

/-- a type's kind, off the program's own table -/
def kOf (P : Program) (d : TypeDesc) : Option TK :=
  match d with
  | .struct fs => if fs.all (fun f => known P f.type) then some (.struct (fs.toList.map fun f => (f.offset, P.cellsOf f.type, isAggT P f.type))) else none
  | .array n e => if known P e then some (.array n (P.cellsOf e) (isAggT P e)) else none
  | .slice e => if known P e then some (.slice e (P.cellsOf e) (P.bytesOf e)) else none
  | .interface _ => some .iface
  | .map k e => some (.mapT k e)
  | .string => some .str
  | .int k => some (.sc k)
  | .pointer e => if known P e then some (.ptr (P.cellsOf e)) else none
  | .func .. => some .func
  | _ => some .other

theorem kOf_ok {P : Program} {d : TypeDesc} {k : TK} (h : kOf P d = some k) : KOK P d k := by
  unfold kOf at h
  split at h
  case h_1 =>
    split at h
    · rename_i hk
      cases h
      rw [Array.all_eq_true_iff_forall_mem] at hk
      exact ⟨_, rfl, rfl, hk⟩
    · cases h
  case h_2 =>
    split at h
    · cases h; exact ⟨_, rfl, rfl, rfl, ‹_›⟩
    · cases h
  case h_3 =>
    split at h
    · cases h; exact ⟨rfl, rfl, rfl, ‹_›⟩
    · cases h
  case h_4 => cases h; exact ⟨_, rfl⟩
  case h_5 => cases h; rfl
  case h_6 => cases h; rfl
  case h_7 => cases h; rfl
  case h_8 =>
    split at h
    · cases h; exact ⟨_, rfl, rfl, ‹_›⟩
    · cases h
  case h_9 => cases h; exact ⟨_, _, _, rfl⟩
  case h_10 =>
    cases h
    cases d <;> simp_all [KOK]

def isAggV : Value → Bool
  | .agg _ => true
  | _ => false

noncomputable def tiOf (P : Program) (t : TypeId) : Option TI :=
  match P.underlying t, P.info? t with
  | some d, some info => match info.zero, kOf P d with
    | some z, some k => if z.cells.size = info.size ∧ isAggV z = isAggT P t then some ⟨k, info.size, z.cells.toList.map mkVal⟩ else none
    | _, _ => none
  | _, _ => none

theorem tiOf_ok {P : Program} {t : TypeId} {ti : TI} (h : tiOf P t = some ti) : TIOK P t ti := by
  unfold tiOf at h
  split at h
  · rename_i d info h1 h2
    split at h
    · rename_i z k h3 h4
      split at h
      · rename_i hc
        cases h
        refine ⟨d, info, z, h1, h2, rfl, h3, rfl, hc.1, ?_, kOf_ok h4⟩
        rw [← hc.2]
        cases z <;> simp [isAggV]
      · cases h
    · cases h
  · cases h
end Ev
end
