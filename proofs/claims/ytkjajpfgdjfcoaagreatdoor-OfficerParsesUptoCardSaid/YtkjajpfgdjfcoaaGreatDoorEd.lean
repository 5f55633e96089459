/- The evaluator: every operation is sound; steps of the machine. -/
import Derived.Test.YtkjajpfgdjfcoaaGreatDoorEc
import Derived.Defers
set_option linter.unusedVariables false
set_option linter.unusedSimpArgs false
section
namespace Ev
open Go

section
variable {E : Env} {G : Good} {ρ : Rho} {st : St} {w : World} {T : Tr AV} {a : Act} {o : Oper}

/-! ### maps -/
theorem pureRun_bind {P : Program} {α β : Type} {b : β} : ∀ (s : Sem α) (f : α → Sem β), pureRun P (s >>= f) = some b → ∃ a, pureRun P s = some a ∧ pureRun P (f a) = some b := by
  intro s
  induction s with
  | pure a => intro f h; exact ⟨a, rfl, h⟩
  | program k ih => intro f h; exact ih P f h
  | mark m k ih => intro f h; exact ih f h
  | _ => intro f h; simp [bind, Sem.bind, pureRun] at h

/-- two lists of entries with the same keys -/
def SameKeys : List MapEntry → List MapEntry → Prop
  | [], [] => True
  | e :: es, m :: ms => e.key = m.key ∧ SameKeys es ms
  | _, _ => False

theorem MR.length {es : List (Value × AV × Nat)} {l : List MapEntry} (h : MR ρ es l) : es.length = l.length := by
  induction es generalizing l with
  | nil => cases l with | nil => rfl | cons _ _ => exact h.elim
  | cons e es ih => cases l with | nil => exact h.elim | cons m ms => simp [ih h.2]

theorem MR.keys {es : List (Value × AV × Nat)} {l : List MapEntry} (h : MR ρ es l) : SameKeys (es.map fun e => ⟨e.1, .tuple #[], 0⟩) l := by
  induction es generalizing l with
  | nil => cases l with | nil => trivial | cons _ _ => exact h.elim
  | cons e es ih => cases l with | nil => exact h.elim | cons m ms => exact ⟨h.1.1.symm, ih h.2⟩

/-- what is found among the same keys -/
def FoundR (i : Nat) (M : List MapEntry) : Option (Nat × Value) → Option (Nat × Value) → Prop
  | none, none => True
  | some (j, _), some (j', v) => j = j' ∧ i ≤ j ∧ ∃ m, M[j - i]? = some m ∧ m.val = v
  | _, _ => False

theorem FoundR.cons {i : Nat} {m : MapEntry} {M : List MapEntry} {x y : Option (Nat × Value)} (h : FoundR (i + 1) M x y) : FoundR i (m :: M) x y := by
  cases x with
  | none => cases y with | none => trivial | some _ => exact h.elim
  | some x => cases y with
    | none => exact h.elim
    | some y =>
      obtain ⟨j, u⟩ := x
      obtain ⟨j', v⟩ := y
      obtain ⟨h1, h2, mm, h3, h4⟩ := h
      refine ⟨h1, by omega, mm, ?_, h4⟩
      have : j - i = (j - (i + 1)) + 1 := by omega
      rw [this]; simpa using h3

theorem findNow_same (kind : TypeDesc) (k : Value) : ∀ (L M : List MapEntry) (i : Nat), SameKeys L M →
    match Instr.findNow kind k L i, Instr.findNow kind k M i with
    | none, none => True
    | some x, some y => FoundR i M x y
    | _, _ => False
  | [], [], i, _ => trivial
  | e :: L, m :: M, i, h => by
    obtain ⟨hk, h⟩ := h
    simp only [Instr.findNow, hk]
    cases Instr.sameNow kind k m.key with
    | none => trivial
    | some b => cases b with
      | true => exact ⟨rfl, Nat.le_refl _, m, by simp, rfl⟩
      | false =>
        have ih := findNow_same kind k L M (i + 1) h
        revert ih
        cases Instr.findNow kind k L (i + 1) <;> cases Instr.findNow kind k M (i + 1) <;> intro ih
        · trivial
        · exact ih.elim
        · exact ih.elim
        · exact ih.cons
  | [], _ :: _, _, h => h.elim
  | _ :: _, [], _, h => h.elim

theorem findAsking_same (kt : TypeId) (k : Value) (w : World) : ∀ (L M : List MapEntry) (i : Nat) (x : Option (Nat × Value)), SameKeys L M → pureRun E.P (Instr.findAsking kt k L i) = some x →
    ∃ y, (Instr.findAsking kt k M i).run E.P w = .ok y w ∧ FoundR i M x y
  | [], [], i, x, _, h => by
    simp only [Instr.findAsking] at h
    have : x = none := by
      have h' : some none = some x := h
      injection h' with h'; exact h'.symm
    subst this
    exact ⟨none, rfl, trivial⟩
  | e :: L, m :: M, i, x, h, hp => by
    obtain ⟨hk, h⟩ := h
    simp only [Instr.findAsking, hk] at hp
    obtain ⟨b, hb1, hb2⟩ := pureRun_bind _ _ hp
    have hrun := pureRun_ok _ _ hb1 w
    simp only [Instr.findAsking, Sem.run_bind, hrun, Result.andThen_ok]
    cases b with
    | true =>
      have : x = some (i, e.val) := by
        have h' : some (some (i, e.val)) = some x := hb2
        injection h' with h'; exact h'.symm
      subst this
      exact ⟨_, rfl, rfl, Nat.le_refl _, m, by simp, rfl⟩
    | false =>
      obtain ⟨y, h1, h2⟩ := findAsking_same kt k w L M (i + 1) x h hb2
      exact ⟨y, h1, h2.cons⟩
  | [], _ :: _, _, _, h, _ => h.elim
  | _ :: _, [], _, _, h, _ => h.elim

theorem findKey_same (kt : TypeId) (k : Value) (w : World) {L M : List MapEntry} {x : Option (Nat × Value)} (h : SameKeys L M) (hp : pureRun E.P (Instr.findKey kt k L) = some x) :
    ∃ y, (Instr.findKey kt k M).run E.P w = .ok y w ∧ FoundR 0 M x y := by
  unfold Instr.findKey at hp ⊢
  obtain ⟨d, hd1, hd2⟩ := pureRun_bind _ _ hp
  have hrun := pureRun_ok _ _ hd1 w
  simp only [Sem.run_bind, hrun, Result.andThen_ok]
  have hs := findNow_same d k L M 0 h
  revert hs hd2
  cases Instr.findNow d k L 0 with
  | none => cases Instr.findNow d k M 0 with
    | none => intro hd2 _; exact findAsking_same kt k w L M 0 x h hd2
    | some _ => intro _ hs; exact hs.elim
  | some r => cases Instr.findNow d k M 0 with
    | none => intro _ hs; exact hs.elim
    | some r' =>
      intro hd2 hs
      have h' : some r = some x := hd2
      injection h' with h'
      subst h'
      exact ⟨r', rfl, hs⟩

theorem eGet_MR {es : List (Value × AV × Nat)} {l : List MapEntry} (h : MR ρ es l) {i : Nat} {e : Value × AV × Nat} (he : eGet es i = some e) : ∃ m, l[i]? = some m ∧ m.key = e.1 ∧ VR ρ e.2.1 m.val ∧ m.born = e.2.2 := by
  induction es generalizing l i with
  | nil => cases l with | nil => simp [eGet] at he | cons _ _ => exact h.elim
  | cons x es ih =>
    cases l with
    | nil => exact h.elim
    | cons m ms =>
      cases i with
      | zero => simp [eGet] at he; subst he; exact ⟨m, by simp, h.1⟩
      | succ i => simp only [eGet] at he; simpa using ih h.2 he

theorem findK_ok {emp : Bool} {kt : TypeId} {k : Value} {es : List (Value × AV × Nat)} {l : List MapEntry} (h : MR ρ es l) {r : Option (Nat × Value × AV × Nat)} (hf : findK E emp kt k es = some r) (w : World) :
    (Instr.checkKey emp 10000 kt k).run E.P w = .ok () w ∧
    match r with
    | none => (Instr.findKey kt k l).run E.P w = .ok none w
    | some (j, e) => ∃ m, l[j]? = some m ∧ m.key = e.1 ∧ VR ρ e.2.1 m.val ∧ m.born = e.2.2 ∧ (Instr.findKey kt k l).run E.P w = .ok (some (j, m.val)) w := by
  unfold findK at hf
  split at hf
  · rename_i hp
    cases hf
    obtain ⟨u, h1, h2⟩ := pureRun_bind _ _ hp
    obtain ⟨y, h3, h4⟩ := findKey_same (E := E) kt k w h.keys h2
    refine ⟨pureRun_ok _ _ h1 w, ?_⟩
    cases y with
    | none => exact h3
    | some _ => exact h4.elim
  · rename_i p hp
    split at hf
    · rename_i e he
      cases hf
      obtain ⟨u, h1, h2⟩ := pureRun_bind _ _ hp
      obtain ⟨y, h3, h4⟩ := findKey_same (E := E) kt k w h.keys h2
      refine ⟨pureRun_ok _ _ h1 w, ?_⟩
      cases y with
      | none => obtain ⟨j, v⟩ := p; exact h4.elim
      | some y =>
        obtain ⟨j, v⟩ := p
        obtain ⟨j', v'⟩ := y
        obtain ⟨rfl, _, m, h5, h6⟩ := h4
        simp only [Nat.sub_zero] at h5
        obtain ⟨m', g1, g2, g3, g4⟩ := eGet_MR h he
        rw [h5] at g1
        cases g1
        exact ⟨m, h5, g2, g3, g4, by rw [h3, h6]⟩
    · cases hf
  · cases hf

theorem MR.set {es : List (Value × AV × Nat)} {l : List MapEntry} (h : MR ρ es l) {i : Nat} {f : Value × AV × Nat → Value × AV × Nat} {g : MapEntry → MapEntry}
    (hfg : ∀ e m, m.key = e.1 ∧ VR ρ e.2.1 m.val ∧ m.born = e.2.2 → (g m).key = (f e).1 ∧ VR ρ (f e).2.1 (g m).val ∧ (g m).born = (f e).2.2) : MR ρ (setE es i f) (l.modify i g) := by
  induction es generalizing l i with
  | nil => cases l with | nil => simp [setE, MR] | cons _ _ => exact h.elim
  | cons e es ih =>
    cases l with
    | nil => exact h.elim
    | cons m ms =>
      cases i with
      | zero => simpa [setE] using ⟨hfg e m h.1, h.2⟩
      | succ i => simpa [setE] using ⟨h.1, ih h.2⟩

theorem MR.snoc {es : List (Value × AV × Nat)} {l : List MapEntry} (h : MR ρ es l) {e : Value × AV × Nat} {m : MapEntry} (he : m.key = e.1 ∧ VR ρ e.2.1 m.val ∧ m.born = e.2.2) : MR ρ (es ++ [e]) (l ++ [m]) := by
  induction es generalizing l with
  | nil => cases l with | nil => exact ⟨he, trivial⟩ | cons _ _ => exact h.elim
  | cons x es ih => cases l with | nil => exact h.elim | cons m' ms => exact ⟨h.1, ih h.2⟩

theorem rel_map (hR : Rel E G ρ st w.heap) {i b e : Nat} (hi : ρ i = some (b, e)) {es : List (Value × AV × Nat)} {c : Nat} (hg : st.h.get i = some (.map es c)) : ∃ l, w.heap[b]? = some (.map ⟨l⟩ c) ∧ MR ρ es l := by
  obtain ⟨ob, h1, h2⟩ := hR.obj i _ b e hg hi
  cases h2 with
  | map l h => exact ⟨l, h1, h⟩

/-- an object that is no row of cells is turned -/
theorem setObj_ok (hR : Rel E G ρ st w.heap) {i b e : Nat} (hi : ρ i = some (b, e)) {ob ob' : AObj} (hg : st.h.get i = some ob) {old new : Obj} (hb : w.heap[b]? = some old) (hc : ∀ c e f, old ≠ .cells c e f) (ho : OR E G ρ e ob' new) :
    ∃ w', (setObj b new).run E.P w = .ok () w' ∧ Mv E G ρ st w ρ (st.upd i (some ob')) w' := by
  refine ⟨{ w with heap := w.heap.setIfInBounds b new }, ?_, ?_⟩
  · unfold setObj
    simp only [Sem.run, hb]
  · have hlt := lt_of_some hb
    obtain ⟨r1, r2⟩ := hR.upd (h' := w.heap.setIfInBounds b new) (o' := ob') hg hi (by simp) (fun c hcb => by simp [Array.getElem?_setIfInBounds_ne (Ne.symm hcb)]) (by simp [hlt]) ho
    exact ⟨r1, r2, ⟨rfl, rfl, rfl⟩, rfl⟩

theorem newObj_ok (hR : Rel E G ρ st w.heap) {ob : AObj} {o' : Obj} (ho : OR E G ρ 0 ob o') : ∃ w', (newObj o').run E.P w = .ok w.heap.size w' ∧ Mv E G ρ st w (addρ ρ st.n w.heap.size 0) (st.new ob) w' :=
  ⟨{ w with heap := w.heap.push o' }, by simp, Mv.new hR rfl ⟨rfl, rfl, rfl⟩ ho⟩

theorem opMakeMap_ok (hOK : EOK E) (hR : Rel E G ρ st w.heap) (hE : ER ρ T a.tmps) {t : TypeId} {r : Option Operand} (hr : ∀ x, r = some x → goodX E.P.globals.size x = true) :
    OpR E G ρ st w ((do let y ← Instr.makeMap t (r.map a.eval); pure (.value y) : Sem Next).run E.P w) (opMakeMap E o T st t r) := by
  have mk : (∀ w, (Instr.makeMap t (r.map a.eval)).run E.P w = (do pure (.map (some (← newObj (.map #[] 0)))) : Sem Value).run E.P w) →
      OpR E G ρ st w ((do let y ← Instr.makeMap t (r.map a.eval); pure (.value y) : Sem Next).run E.P w) (.val (.mp st.n) (st.new (.map [] 0))) := by
    intro h
    obtain ⟨w', h1, h2⟩ := newObj_ok (E := E) hR (ob := .map [] 0) (o' := .map #[] 0) (.map [] trivial)
    refine .of_value ⟨.map (some w.heap.size), w', _, ?_, .mp (addρ_self _ _ _ _), h2⟩
    rw [h w]; simp only [Sem.run_bind, h1, Result.andThen_ok, Sem.run_pure]
  unfold opMakeMap
  split
  · exact mk fun w => rfl
  · rename_i x
    split
    · rename_i ti n hti hn
      obtain ⟨k, hk⟩ := intOf_ok (VR.evalO hE (fun i hi => hR.glob i hi) (hr x rfl)) hn
      obtain ⟨d, hd, hu⟩ := (hOK.ty _ _ hti).run_underlying
      split
      · rename_i kt et htk
        rw [htk] at hd
        have hd' : d = .map kt et := hd
        subst hd'
        exact mk fun w => by simp [Instr.makeMap, hu, hk, asInt, asIntOf]
      · trivial
    · trivial

theorem zeroOf_run {t : TypeId} {ti : TI} (h : TIOK E.P t ti) (w : World) : ∃ z, (zeroValue t).run E.P w = .ok z w ∧ ∀ ρ, VR ρ (zeroOf ti) z := by
  obtain ⟨z, h1, _, _, h4⟩ := h.zero_run w
  exact ⟨z, h1, h4⟩

theorem toVal_key (hR : Rel E G ρ st w.heap) (hE : ER ρ T a.tmps) {k : Operand} (hk : goodX E.P.globals.size k = true) {kv : Value} (h : (evalO T k).toVal = some kv) : a.eval k = kv :=
  (VR.evalO hE (fun i hi => hR.glob i hi) hk).toVal h

def FoundK (E : Env) (ρ : Rho) (kt : TypeId) (kv : Value) (l : List MapEntry) (w : World) : Option (Nat × Value × AV × Nat) → Prop
  | none => (Instr.findKey kt kv l).run E.P w = .ok none w
  | some p => ∃ m : MapEntry, VR ρ p.2.2.1 m.val ∧ (Instr.findKey kt kv l).run E.P w = .ok (some (p.1, m.val)) w

theorem mapOf_ok (hR : Rel E G ρ st w.heap) {x : AV} {y : Value} (h1 : VR ρ x y) {kt : TypeId} {kv : Value} {r : Option (Nat × Value × AV × Nat)} (hr : mapOf E kt kv x st = some r) :
    ∃ l : List MapEntry, ((y = .map none ∧ l = []) ∨ ∃ b c, y = .map (some b) ∧ w.heap[b]? = some (.map ⟨l⟩ c)) ∧ (Instr.checkKey l.isEmpty 10000 kt kv).run E.P w = .ok () w ∧ FoundK E ρ kt kv l w r := by
  unfold mapOf at hr
  split at hr
  · cases h1
    obtain ⟨g1, g2⟩ := findK_ok (ρ := ρ) (l := []) (es := []) trivial hr w
    refine ⟨[], .inl ⟨rfl, rfl⟩, g1, ?_⟩
    cases r with
    | none => exact g2
    | some p => obtain ⟨j, e⟩ := p; obtain ⟨m, q1, q2, q3, q4, q5⟩ := g2; exact ⟨m, q3, q5⟩
  · rename_i i
    split at hr
    · rename_i es c hg
      cases h1 with
      | mp hi =>
      obtain ⟨l, hb, hm⟩ := rel_map hR hi hg
      obtain ⟨g1, g2⟩ := findK_ok hm hr w
      have hemp : es.isEmpty = l.isEmpty := by
        have := hm.length
        cases es <;> cases l <;> simp_all
      rw [hemp] at g1
      refine ⟨l, .inr ⟨_, c, rfl, hb⟩, g1, ?_⟩
      cases r with
      | none => exact g2
      | some p => obtain ⟨j, e⟩ := p; obtain ⟨m, q1, q2, q3, q4, q5⟩ := g2; exact ⟨m, q3, q5⟩
    · cases hr
  · cases hr

theorem opLookup_ok (hOK : EOK E) (hR : Rel E G ρ st w.heap) (hE : ER ρ T a.tmps) {t : TypeId} {x k : Operand} {ok : Bool} (hx : goodX E.P.globals.size x = true) (hk : goodX E.P.globals.size k = true) :
    OpR E G ρ st w ((do let y ← Instr.lookup t (a.eval x) (a.eval k) ok; pure (.value y) : Sem Next).run E.P w) (opLookup E o T st t x k ok) := by
  have h1 := VR.evalO hE (fun i hi => hR.glob i hi) hx
  unfold opLookup
  split
  · rename_i ti hti
    obtain ⟨d, hd, hu⟩ := (hOK.ty _ _ hti).run_underlying
    split
    · rename_i kt et htk
      rw [htk] at hd
      have hd' : d = .map kt et := hd
      subst hd'
      split
      · rename_i kv hkv
        rw [toVal_key hR hE hk hkv]
        split
        · rename_i j k' v b hr
          obtain ⟨l, hl, hc, m, hv, hf⟩ := mapOf_ok hR h1 hr
          refine .of_still hR ⟨if ok then .tuple #[m.val, .bool true] else m.val, ?_, ?_⟩
          · rcases hl with ⟨hy, rfl⟩ | ⟨b', c, hy, hb⟩
            · have hc' : (Instr.checkKey true 10000 kt kv).run E.P w = .ok () w := hc
              simp [Instr.lookup, hu, hy, hc', hf]
            · have := run_getObj (P := E.P) hb (fun _ _ _ h => by cases h)
              have hc' : (Instr.checkKey (Array.isEmpty ⟨l⟩) 10000 kt kv).run E.P w = .ok () w := by
                have : Array.isEmpty (⟨l⟩ : Array MapEntry) = l.isEmpty := by cases l <;> rfl
                rw [this]; exact hc
              simp only [Instr.lookup, Sem.run_bind, hu, Result.andThen_ok, hy, this, Sem.run_pure, hc', hf]
          · cases ok
            · exact hv
            · exact .tup (.cons hv (.cons (.bool true) .nil))
        · rename_i te hr hte
          obtain ⟨l, hl, hc, hf⟩ := mapOf_ok hR h1 hr
          have hf : (Instr.findKey kt kv l).run E.P w = .ok none w := hf
          obtain ⟨z, hz1, hz2⟩ := zeroOf_run (hOK.ty _ _ hte) w
          refine .of_still hR ⟨if ok then .tuple #[z, .bool false] else z, ?_, ?_⟩
          · rcases hl with ⟨hy, rfl⟩ | ⟨b', c, hy, hb⟩
            · have hc' : (Instr.checkKey true 10000 kt kv).run E.P w = .ok () w := hc
              simp [Instr.lookup, hu, hy, hc', hf, hz1]
            · have := run_getObj (P := E.P) hb (fun _ _ _ h => by cases h)
              have hc' : (Instr.checkKey (Array.isEmpty ⟨l⟩) 10000 kt kv).run E.P w = .ok () w := by
                have : Array.isEmpty (⟨l⟩ : Array MapEntry) = l.isEmpty := by cases l <;> rfl
                rw [this]; exact hc
              simp only [Instr.lookup, Sem.run_bind, hu, Result.andThen_ok, hy, this, Sem.run_pure, hc', hf, hz1]
          · cases ok
            · exact hz2 ρ
            · exact .tup (.cons (hz2 ρ) (.cons (.bool false) .nil))
        · trivial
      · trivial
    · trivial
  · trivial

theorem opUpdate_ok (hOK : EOK E) (hR : Rel E G ρ st w.heap) (hE : ER ρ T a.tmps) {t : TypeId} {m k v : Operand} (hm : goodX E.P.globals.size m = true) (hk : goodX E.P.globals.size k = true) (hv : goodX E.P.globals.size v = true) :
    OpR E G ρ st w ((do Instr.mapUpdate t (a.eval m) (a.eval k) (a.eval v); pure .skip : Sem Next).run E.P w) (opUpdate E o T st t m k v) := by
  have h1 := VR.evalO hE (fun i hi => hR.glob i hi) hm
  have h3 := VR.evalO hE (fun i hi => hR.glob i hi) hv
  unfold opUpdate
  split
  · rename_i ti hti
    obtain ⟨d, hd, hu⟩ := (hOK.ty _ _ hti).run_underlying
    split
    · rename_i kt et htk
      rw [htk] at hd
      have hd' : d = .map kt et := hd
      subst hd'
      split
      · rename_i kv i hkv hp
        rw [toVal_key hR hE hk hkv]
        rw [hp] at h1
        generalize a.eval m = z at h1
        cases h1 with
        | @mp _ b e hi =>
        split
        · rename_i es c hg
          obtain ⟨l, hb, hmr⟩ := rel_map hR hi hg
          have hgo := run_getObj (P := E.P) hb (fun _ _ _ h => by cases h)
          split
          · rename_i j k' v' hf
            obtain ⟨g1, mm, q1, q2, q3, q4, q5⟩ := findK_ok hmr hf w
            split
            · rename_i hsame
              have hnew : OR E G ρ e (.map (setE es j fun e => (kv, evalO T v, e.2.2)) c) (.map ⟨l.modify j fun e => { e with key := kv, val := a.eval v }⟩ c) :=
                .map _ (hmr.set fun e m h => ⟨rfl, h3, h.2.2⟩)
              obtain ⟨w', r1, r2⟩ := setObj_ok hR hi hg hb (fun _ _ _ h => by cases h) hnew
              refine .of_skip ⟨w', ρ, ?_, r2⟩
              have hq1 : (⟨l⟩ : Array MapEntry)[j]? = some mm := by simpa using q1
              have hkk : mm.key = k' := q2
              have hmod : (⟨l⟩ : Array MapEntry).modify j (fun e => { e with key := kv, val := a.eval v }) = ⟨l.modify j fun e => { e with key := kv, val := a.eval v }⟩ := by
                apply Array.ext'; simp
              simp only [Instr.mapUpdate, Sem.run_bind, hu, Result.andThen_ok, hgo, g1, q5, hq1, Option.map_some, Option.getD_some, Instr.keyThatStays, hkk, hsame, if_true, Sem.run_pure, hmod, r1]
            · trivial
          · rename_i hf
            obtain ⟨g1, g2⟩ := findK_ok hmr hf w
            have hnew : OR E G ρ e (.map (es ++ [(kv, evalO T v, c)]) (c + 1)) (.map ⟨l ++ [{ key := kv, val := a.eval v, born := c }]⟩ (c + 1)) :=
              .map _ (hmr.snoc ⟨rfl, h3, rfl⟩)
            obtain ⟨w', r1, r2⟩ := setObj_ok hR hi hg hb (fun _ _ _ h => by cases h) hnew
            refine .of_skip ⟨w', ρ, ?_, r2⟩
            have hpush : (⟨l⟩ : Array MapEntry).push { key := kv, val := a.eval v, born := c } = ⟨l ++ [{ key := kv, val := a.eval v, born := c }]⟩ := by
              apply Array.ext'; simp
            simp only [Instr.mapUpdate, Sem.run_bind, hu, Result.andThen_ok, hgo, g1, g2, hpush, r1]
          · trivial
        · trivial
      · trivial
    · trivial
  · trivial

theorem opMapEntry_ok (hOK : EOK E) (hR : Rel E G ρ st w.heap) (hE : ER ρ T a.tmps) {t : TypeId} {m k : Operand} (hm : goodX E.P.globals.size m = true) (hk : goodX E.P.globals.size k = true) :
    OpR E G ρ st w ((do let y ← Instr.mapEntry t (a.eval m) (a.eval k); pure (.value y) : Sem Next).run E.P w) (opMapEntry E o T st t m k) := by
  have h1 := VR.evalO hE (fun i hi => hR.glob i hi) hm
  unfold opMapEntry
  split
  · rename_i ti hti
    obtain ⟨d, hd, hu⟩ := (hOK.ty _ _ hti).run_underlying
    split
    · rename_i kt et htk
      rw [htk] at hd
      have hd' : d = .map kt et := hd
      subst hd'
      split
      · rename_i kv i hkv hp
        rw [toVal_key hR hE hk hkv]
        rw [hp] at h1
        generalize a.eval m = z at h1
        cases h1 with
        | @mp _ b e hi =>
        split
        · rename_i es c hg
          obtain ⟨l, hb, hmr⟩ := rel_map hR hi hg
          have hgo := run_getObj (P := E.P) hb (fun _ _ _ h => by cases h)
          split
          · rename_i j k' v' bn hf
            obtain ⟨g1, mm, q1, q2, q3, q4, q5⟩ := findK_ok hmr hf w
            split
            · rename_i hsame
              have hnew : OR E G ρ e (.map (setE es j fun e => (kv, e.2.1, e.2.2)) c) (.map ⟨l.modify j fun e => { e with key := kv }⟩ c) :=
                .map _ (hmr.set fun e m h => ⟨rfl, h.2.1, h.2.2⟩)
              obtain ⟨w', r1, r2⟩ := setObj_ok hR hi hg hb (fun _ _ _ h => by cases h) hnew
              have hq1 : (⟨l⟩ : Array MapEntry)[j]? = some mm := by simpa using q1
              have hkk : mm.key = k' := q2
              have hbn : mm.born = bn := q4
              have hmod : (⟨l⟩ : Array MapEntry).modify j (fun e => { e with key := kv }) = ⟨l.modify j fun e => { e with key := kv }⟩ := by
                apply Array.ext'; simp
              refine .of_value ⟨.tuple #[mm.val, .int .i64 bn], w', ρ, ?_, .tup (.cons q3 (.cons (.num _) .nil)), r2⟩
              simp only [Instr.mapEntry, Sem.run_bind, hu, Result.andThen_ok, hgo, g1, q5, hq1, Option.map_some, Option.getD_some, Instr.keyThatStays, hkk, hsame, if_true, Sem.run_pure, hmod, r1, hbn, goInt]
            · trivial
          · rename_i te hf hte
            obtain ⟨g1, g2⟩ := findK_ok hmr hf w
            obtain ⟨z, hz1, hz2⟩ := zeroOf_run (hOK.ty _ _ hte) w
            have hnew : OR E G ρ e (.map (es ++ [(kv, zeroOf te, c)]) (c + 1)) (.map ⟨l ++ [{ key := kv, val := z, born := c }]⟩ (c + 1)) :=
              .map _ (hmr.snoc ⟨rfl, hz2 ρ, rfl⟩)
            obtain ⟨w', r1, r2⟩ := setObj_ok hR hi hg hb (fun _ _ _ h => by cases h) hnew
            have hpush : (⟨l⟩ : Array MapEntry).push { key := kv, val := z, born := c } = ⟨l ++ [{ key := kv, val := z, born := c }]⟩ := by
              apply Array.ext'; simp
            refine .of_value ⟨.tuple #[z, .int .i64 c], w', ρ, ?_, .tup (.cons (hz2 ρ) (.cons (.num _) .nil)), r2⟩
            simp only [Instr.mapEntry, Sem.run_bind, hu, Result.andThen_ok, hgo, g1, g2, hz1, hpush, r1, Sem.run_pure, goInt]
          · trivial
        · trivial
      · trivial
    · trivial
  · trivial

theorem bornAt_ok {es : List (Value × AV × Nat)} {l : List MapEntry} (h : MR ρ es l) {b j : Nat} (hb : bornAt es b = some j) : l.findIdx? (fun e => (e.born : Int) == (b : Int)) = some j := by
  induction es generalizing l j with
  | nil => simp [bornAt] at hb
  | cons e es ih =>
    cases l with
    | nil => exact h.elim
    | cons m ms =>
      simp only [bornAt] at hb
      rw [List.findIdx?_cons]
      have hbm : m.born = e.2.2 := h.1.2.2
      split at hb
      · rename_i he
        cases hb
        have : ((m.born : Int) == (b : Int)) = true := by simp [hbm, he]
        simp [this]
      · rename_i he
        cases hr : bornAt es b with
        | none => simp [hr] at hb
        | some j' =>
          simp [hr] at hb
          subst hb
          have : ((m.born : Int) == (b : Int)) = false := by
            simp [hbm]; intro h; exact he (by omega)
          simp [this, ih h.2 hr]

theorem opEntryStore_ok (hR : Rel E G ρ st w.heap) (hE : ER ρ T a.tmps) {t : TypeId} {m s v : Operand} (hm : goodX E.P.globals.size m = true) (hs : goodX E.P.globals.size s = true) (hv : goodX E.P.globals.size v = true) :
    OpR E G ρ st w ((do Instr.entryStore t (a.eval m) (a.eval s) (a.eval v); pure .skip : Sem Next).run E.P w) (opEntryStore E o T st m s v) := by
  have h1 := VR.evalO hE (fun i hi => hR.glob i hi) hm
  have h2 := VR.evalO hE (fun i hi => hR.glob i hi) hs
  have h3 := VR.evalO hE (fun i hi => hR.glob i hi) hv
  unfold opEntryStore
  split
  · rename_i i b hp hb
    obtain ⟨kk, hkk⟩ := intOf_ok h2 hb
    rw [hp] at h1
    generalize a.eval m = z at h1
    cases h1 with
    | @mp _ bb e hi =>
    split
    · rename_i es c hg
      obtain ⟨l, hbl, hmr⟩ := rel_map hR hi hg
      have hgo := run_getObj (P := E.P) hbl (fun _ _ _ h => by cases h)
      split
      · rename_i h0
        split
        · rename_i j hj
          have hnew : OR E G ρ e (.map (setE es j fun e => (e.1, evalO T v, e.2.2)) c) (.map ⟨l.modify j fun e => { e with val := a.eval v }⟩ c) :=
            .map _ (hmr.set fun e m h => ⟨h.1, h3, h.2.2⟩)
          obtain ⟨w', r1, r2⟩ := setObj_ok hR hi hg hbl (fun _ _ _ h => by cases h) hnew
          refine .of_skip ⟨w', ρ, ?_, r2⟩
          have hmod : (⟨l⟩ : Array MapEntry).modify j (fun e => { e with val := a.eval v }) = ⟨l.modify j fun e => { e with val := a.eval v }⟩ := by
            apply Array.ext'; simp
          have hfi : (⟨l⟩ : Array MapEntry).findIdx? (fun e => (e.born : Int) == b) = some j := by
            have := bornAt_ok hmr hj
            rw [Int.toNat_of_nonneg h0] at this
            simpa using this
          simp only [Instr.entryStore, Sem.run_bind, Result.andThen_ok, hgo, hkk, asInt, asIntOf, Sem.run_pure, hfi, hmod, r1]
        · trivial
      · trivial
    · trivial
  · trivial

theorem opRange_ok (hOK : EOK E) (hR : Rel E G ρ st w.heap) (hE : ER ρ T a.tmps) {t : TypeId} {x : Operand} (hx : goodX E.P.globals.size x = true) :
    OpR E G ρ st w ((do let y ← Instr.range t (a.eval x); pure (.value y) : Sem Next).run E.P w) (opRange E o T st t x) := by
  have h1 := VR.evalO hE (fun i hi => hR.glob i hi) hx
  unfold opRange
  split
  · rename_i ti hti
    obtain ⟨d, hd, hu⟩ := (hOK.ty _ _ hti).run_underlying
    generalize evalO T x = u at h1
    generalize a.eval x = z at h1
    split
    · rename_i b hk
      rw [hk] at hd
      have hd' : d = .string := hd
      subst hd'
      cases h1
      obtain ⟨w', r1, r2⟩ := newObj_ok (E := E) hR (ob := .siter b 0) (.siter b 0)
      refine .of_value ⟨.pointer (some ⟨w.heap.size, 0, none⟩), w', _, ?_, .ptr (addρ_self _ _ _ _), r2⟩
      simp only [Instr.range, Sem.run_bind, hu, Result.andThen_ok, Sem.run_pure, r1]
    · rename_i kt et hk
      rw [hk] at hd
      have hd' : d = .map kt et := hd
      subst hd'
      cases h1
      obtain ⟨w', r1, r2⟩ := newObj_ok (E := E) hR (ob := .miter none 0 [] 0) (.miter0 0 [] 0)
      refine .of_value ⟨.pointer (some ⟨w.heap.size, 0, none⟩), w', _, ?_, .ptr (addρ_self _ _ _ _), r2⟩
      simp only [Instr.range, Sem.run_bind, hu, Result.andThen_ok, Sem.run_pure, r1]
    · rename_i kt et i hk
      rw [hk] at hd
      have hd' : d = .map kt et := hd
      subst hd'
      cases h1 with
      | @mp _ b e hi =>
      split
      · rename_i es c hg
        obtain ⟨l, hb, hmr⟩ := rel_map hR hi hg
        have hgo := run_getObj (P := E.P) hb (fun _ _ _ h => by cases h)
        obtain ⟨w', r1, r2⟩ := newObj_ok (E := E) hR (ob := .miter (some i) c [] c) (.miter c [] c hi)
        refine .of_value ⟨.pointer (some ⟨w.heap.size, 0, none⟩), w', _, ?_, .ptr (addρ_self _ _ _ _), r2⟩
        simp only [Instr.range, Sem.run_bind, hu, Result.andThen_ok, hgo, Sem.run_pure, r1]
      · trivial
    · trivial
  · trivial

theorem MR.filter {es : List (Value × AV × Nat)} {l : List MapEntry} (h : MR ρ es l) (p : Nat → Bool) : MR ρ (es.filter fun e => p e.2.2) (l.filter fun m => p m.born) := by
  induction es generalizing l with
  | nil => cases l with | nil => trivial | cons _ _ => exact h.elim
  | cons e es ih =>
    cases l with
    | nil => exact h.elim
    | cons m ms =>
      have hb : m.born = e.2.2 := h.1.2.2
      simp only [List.filter_cons, hb]
      split
      · exact ⟨h.1, ih h.2⟩
      · exact ih h.2

theorem MR.all {es : List (Value × AV × Nat)} {l : List MapEntry} (h : MR ρ es l) (p : Nat → Bool) : (es.all fun e => p e.2.2) = (l.all fun m => p m.born) := by
  induction es generalizing l with
  | nil => cases l with | nil => rfl | cons _ _ => exact h.elim
  | cons e es ih =>
    cases l with
    | nil => exact h.elim
    | cons m ms => simp [h.1.2.2, ih h.2]

theorem opNext_ok (hR : Rel E G ρ st w.heap) (hE : ER ρ T a.tmps) {x : Operand} {isS : Bool} {ty : TypeId} (hx : goodX E.P.globals.size x = true) :
    OpR E G ρ st w ((do let y ← Instr.next (a.eval x) isS ty; pure (.value y) : Sem Next).run E.P w) (opNext E o T st x isS) := by
  have h1 := VR.evalO hE (fun i hi => hR.glob i hi) hx
  unfold opNext
  split
  · rename_i r hp
    rw [hp] at h1
    generalize a.eval x = z at h1
    cases h1 with
    | @ptr _ _ b e hi =>
    split
    · -- a string's
      rename_i s pos hg
      obtain ⟨ob, hb, hor⟩ := hR.obj _ _ _ _ hg hi
      cases hor
      have hgo := run_getObj (P := E.P) hb (fun _ _ _ h => by cases h)
      split
      · rename_i hlt
        obtain ⟨w', r1, r2⟩ := setObj_ok (E := E) hR hi hg hb (fun _ _ _ h => by cases h) (ob' := .siter s (pos + (Utf8.decode s pos).2)) (.siter s (pos + (Utf8.decode s pos).2))
        refine .of_value ⟨.tuple #[.bool true, goInt pos, .int .i32 (Utf8.decode s pos).1], w', ρ, ?_, .tup (.cons (.bool true) (.cons (.num _) (.cons (.val _) .nil))), r2⟩
        simp only [Instr.next, Sem.run_bind, hgo, Result.andThen_ok, hlt, if_true, r1, Sem.run_pure]
      · rename_i hlt
        refine .of_still hR ⟨.tuple #[.bool false], ?_, .tup (.cons (.bool false) .nil)⟩
        simp only [Instr.next, Sem.run_bind, hgo, Result.andThen_ok, hlt, if_false, Sem.run_pure]
    · rename_i hg
      obtain ⟨ob, hb, hor⟩ := hR.obj _ _ _ _ hg hi
      cases hor
      have hgo := run_getObj (P := E.P) hb (fun _ _ _ h => by cases h)
      refine .of_still hR ⟨.tuple #[.bool false], ?_, .tup (.cons (.bool false) .nil)⟩
      simp only [Instr.next, Sem.run_bind, hgo, Result.andThen_ok, Sem.run_pure]
    · rename_i m since seen last hg
      obtain ⟨ob, hb, hor⟩ := hR.obj _ _ _ _ hg hi
      cases hor with
      | @miter _ mb me _ _ _ hmi =>
      have hgo := run_getObj (P := E.P) hb (fun _ _ _ h => by cases h)
      split
      · rename_i es c hgm
        obtain ⟨l, hbm, hmr⟩ := rel_map hR hmi hgm
        have hgm' := run_getObj (P := E.P) hbm (fun _ _ _ h => by cases h)
        unfold nextMap
        split
        · trivial
        · rename_i hfine
          have hfine' : ¬ ((!(⟨seen⟩ : Array Nat).isEmpty && !(⟨l⟩ : Array MapEntry).isEmpty && (⟨l⟩ : Array MapEntry).all fun e => decide (e.born ≥ last)) = true) := by
            have e1 : (⟨seen⟩ : Array Nat).isEmpty = seen.isEmpty := by cases seen <;> rfl
            have e2 : (⟨l⟩ : Array MapEntry).isEmpty = es.isEmpty := by
              have := hmr.length
              cases l <;> cases es <;> simp_all
            have e3 : ((⟨l⟩ : Array MapEntry).all fun e => decide (e.born ≥ last)) = es.all fun e => decide (e.2.2 ≥ last) := by
              rw [hmr.all fun b => decide (b ≥ last)]
              simp
            rw [e1, e2, e3]; exact hfine
          have hfil := hmr.filter fun b => !seen.contains b
          have harr : (⟨l⟩ : Array MapEntry).filter (fun e => !(⟨seen⟩ : Array Nat).contains e.born) = ⟨l.filter fun m => !seen.contains m.born⟩ := by
            apply Array.ext'
            simp
          split
          · rename_i hnil
            rw [hnil] at hfil
            have hl0 : (l.filter fun m => !seen.contains m.born) = [] := by
              cases hq : l.filter fun m => !seen.contains m.born with
              | nil => rfl
              | cons _ _ => rw [hq] at hfil; exact hfil.elim
            refine .of_still hR ⟨.tuple #[.bool false], ?_, .tup (.cons (.bool false) .nil)⟩
            simp only [Instr.next, Sem.run_bind, hgo, hgm', Result.andThen_ok, Sem.run_pure, Sem.run_ite]
            rw [if_neg hfine']
            rw [harr, hl0]
            simp [Question.forced]
          · rename_i en hone
            rw [hone] at hfil
            split
            · rename_i hlt
              obtain ⟨mm, hl1, hmm⟩ : ∃ mm, (l.filter fun m => !seen.contains m.born) = [mm] ∧ (mm.key = en.1 ∧ VR ρ en.2.1 mm.val ∧ mm.born = en.2.2) := by
                cases hq : l.filter fun m => !seen.contains m.born with
                | nil => rw [hq] at hfil; exact hfil.elim
                | cons m ms =>
                  rw [hq] at hfil
                  cases ms with
                  | nil => exact ⟨m, rfl, hfil.1⟩
                  | cons _ _ => exact hfil.2.elim
              have hbl : mm.born < since := by rw [hmm.2.2]; exact hlt
              obtain ⟨w', r1, r2⟩ := setObj_ok (E := E) hR hi hg hb (fun _ _ _ h => by cases h) (ob' := .miter (some m) since (seen ++ [en.2.2]) c) (.miter since (seen ++ [en.2.2]) c hmi)
              refine .of_value ⟨.tuple #[.bool true, mm.key, mm.val], w', ρ, ?_, .tup (.cons (.bool true) (.cons (by rw [hmm.1]; exact VR.ofConst ρ _) (.cons hmm.2.1 .nil))), r2⟩
              simp only [Instr.next, Sem.run_bind, hgo, hgm', Result.andThen_ok, Sem.run_pure, Sem.run_ite]
              rw [if_neg hfine']
              rw [harr, hl1]
              have f1 : (⟨[mm]⟩ : Array MapEntry).filter (fun e => decide (e.born < since)) = #[mm] := by simp [hbl]
              have f2 : (⟨[mm]⟩ : Array MapEntry).filter (fun e => decide (e.born ≥ since)) = #[] := by
                have : ¬ mm.born ≥ since := by omega
                simp [this]
              simp only [f1, f2]
              simp [Question.forced]
              have he : (seen ++ [mm.born]).toArray = (⟨seen ++ [en.2.2]⟩ : Array Nat) := by rw [hmm.2.2]
              rw [he, r1]
              rfl
            · trivial
          · trivial
      · trivial
    · trivial
  · trivial

theorem MR.find {es : List (Value × AV × Nat)} {l : List MapEntry} (h : MR ρ es l) (b : Nat) {e : Value × AV × Nat} (he : es.find? (fun e => e.2.2 == b) = some e) : ∃ m, l.find? (fun m => m.born == b) = some m ∧ m.key = e.1 ∧ VR ρ e.2.1 m.val := by
  induction es generalizing l with
  | nil => simp at he
  | cons x es ih =>
    cases l with
    | nil => exact h.elim
    | cons m ms =>
      have hb : m.born = x.2.2 := h.1.2.2
      simp only [List.find?_cons] at he ⊢
      rw [hb]
      cases hx : (x.2.2 == b) with
      | true => simp only [hx] at he ⊢; cases he; exact ⟨m, rfl, h.1.1, h.1.2.1⟩
      | false => simp only [hx] at he ⊢; exact ih h.2 he

theorem opEntry_ok (hR : Rel E G ρ st w.heap) (hE : ER ρ T a.tmps) {x : Operand} (hx : goodX E.P.globals.size x = true) :
    OpR E G ρ st w ((do let y ← Instr.entry (a.eval x); pure (.value y) : Sem Next).run E.P w) (opEntry E o T st x) := by
  have h1 := VR.evalO hE (fun i hi => hR.glob i hi) hx
  unfold opEntry
  split
  · rename_i r hp
    rw [hp] at h1
    generalize a.eval x = z at h1
    cases h1 with
    | @ptr _ _ b e hi =>
    split
    · rename_i m since seen stepped hg
      obtain ⟨ob, hb, hor⟩ := hR.obj _ _ _ _ hg hi
      cases hor with
      | @miter _ mb me _ _ _ hmi =>
      have hgo := run_getObj (P := E.P) hb (fun _ _ _ h => by cases h)
      split
      · rename_i stamp es c hst hgm
        obtain ⟨l, hbm, hmr⟩ := rel_map hR hmi hgm
        have hgm' := run_getObj (P := E.P) hbm (fun _ _ _ h => by cases h)
        split
        · rename_i hcs
          split
          · rename_i en hfe
            obtain ⟨mm, q1, q2, q3⟩ := hmr.find stamp hfe
            refine .of_still hR ⟨.tuple #[mm.key, mm.val], ?_, .tup (.cons (by rw [q2]; exact VR.ofConst ρ _) (.cons q3 .nil))⟩
            have hbk : (⟨seen⟩ : Array Nat).back? = some stamp := by simpa using hst
            have hfa : (⟨l⟩ : Array MapEntry).find? (fun e => e.born == stamp) = some mm := by simpa using q1
            simp only [Instr.entry, Sem.run_bind, hgo, Result.andThen_ok, hbk, hgm', hcs, bne_self_eq_false, Bool.false_eq_true, if_false, hfa, Sem.run_pure]
          · trivial
        · trivial
      · trivial
    · trivial
  · trivial
end
end Ev
end

section
namespace Ev
open Go

section
variable {E : Env} {G : Good} {ρ : Rho} {st : St} {w : World} {T : Tr AV} {a : Act} {o : Oper}

theorem aOp_ok (hOK : EOK E) (hR : Rel E G ρ st w.heap) (hE : ER ρ T a.tmps) (ho : goodOp E.P.globals.size o = true) : OpR E G ρ st w ((execOp a.eval o).run E.P w) (aOp E o T st) := by
  have hpure := aPure_ok hR hE ho
  have hg : ∀ x ∈ o.op.operands, goodX E.P.globals.size x = true := fun x hx => goodOp_mem ho hx
  generalize hop : o.op = op at hg
  have hA : aOp E o T st = @Op.rec (fun _ => Env → Oper → Tr AV → St → Res)
    (fun x E o T s => opMove E o T s x) (fun x E o T s => opMove E o T s x) (fun c a b E o T s => opPick E o T s c a b) (fun t E o T s => opAlloc E o T s t) (fun t x E o T s => opBox E o T s t x)
    (fun t parts E o T s => opBuild E o T s t parts) (fun t len parts E o T s => opBuildSlice E o T s t len parts) (fun t m k v E o T s => opUpdate E o T s t m k v) (fun t a E o T s => opLoad E o T s t a)
    (fun t a v E o T s => opStore E o T s t a v) (fun _ E o T s => aPure E o T s) (fun _ E o T s => aPure E o T s) (fun x E o T s => opNilCheck E o T s x) (fun op xt x y yt E o T s => opBinOp E o T s op xt x y yt)
    (fun op _ x E o T s => opUn E o T s op x) (fun src dst x E o T s => opConvert E o T s src dst x) (fun _ _ E o T s => aPure E o T s) (fun t x E o T s => opMakeInterface E o T s t x)
    (fun f first cap E o T s => opMakeFunc E o T s f first cap) (fun t r E o T s => opMakeMap E o T s t r) (fun _ _ _ _ _ _ => .no 93) (fun t l c E o T s => opMakeSlice E o T s t l c)
    (fun t x lo hi mx E o T s => opSlice E o T s t x lo hi mx) (fun st x f E o T s => opFieldAddr E o T s st x f) (fun xt x f E o T s => opField E o T s xt x f) (fun t x ix E o T s => opIndexAddr E o T s t x ix)
    (fun xt x ix E o T s => opIndex E o T s xt x ix) (fun t x k ok E o T s => opLookup E o T s t x k ok) (fun t m k v E o T s => opUpdate E o T s t m k v) (fun t m k E o T s => opMapEntry E o T s t m k)
    (fun _ m st v E o T s => opEntryStore E o T s m st v) (fun t x E o T s => opRange E o T s t x) (fun x isS E o T s => opNext E o T s x isS) (fun x E o T s => opEntry E o T s x)
    (fun x xt t ok E o T s => opTypeAssert E o T s x xt t ok) (fun t ix E o T s => opExtract E o T s t ix) (fun c E o T s => opCall E o T s c) (fun _ _ _ _ _ => .no 93) (fun c E o T s => opDefer E o T s c)
    (fun x E o T s => opPanic E o T s x) (fun _ _ _ _ _ _ => .no 93) (fun _ _ _ _ _ _ _ => .no 93) (fun _ _ _ _ _ _ => .no 93) op E o T st := by rw [← hop]; rfl
  rw [hA]
  cases op
  case move x => simp only [execOp, hop]; exact opMove_ok hR hE (hg x (by simp [Op.operands]))
  case assign x => simp only [execOp, hop]; exact opMove_ok hR hE (hg x (by simp [Op.operands]))
  case pick c x y => simp only [execOp, hop]; exact opPick_ok hR hE (hg c (by simp [Op.operands])) (hg x (by simp [Op.operands])) (hg y (by simp [Op.operands]))
  case alloc t => simp only [execOp, hop]; exact opAlloc_ok hOK hR
  case box t x => simp only [execOp, hop]; exact opBox_ok hR hE (hg x (by simp [Op.operands]))
  case build t ps => simp only [execOp, hop]; exact opBuild_ok hOK hR hE (fun p hp => hg p.2 (by simp [Op.operands]; exact ⟨p.1, hp⟩))
  case buildSlice t n ps => simp only [execOp, hop]; exact opBuildSlice_ok hOK hR hE (fun p hp => hg p.2 (by simp [Op.operands]; exact ⟨p.1, hp⟩))
  case insert t m k v => simp only [execOp, hop]; exact opUpdate_ok hOK hR hE (hg m (by simp [Op.operands])) (hg k (by simp [Op.operands])) (hg v (by simp [Op.operands]))
  case load t x => simp only [execOp, hop]; exact opLoad_ok hOK hR hE (hg x (by simp [Op.operands]))
  case store t x y => simp only [execOp, hop]; exact opStore_ok hOK hR hE (hg x (by simp [Op.operands])) (hg y (by simp [Op.operands]))
  case ready g => exact hpure
  case waits g => exact hpure
  case nilCheck x => exact opNilCheck_ok hR hE hop (hg x (by simp [Op.operands]))
  case binOp op t x y yt => exact opBinOp_ok hOK hR hE ho hop (hg x (by simp [Op.operands])) (hg y (by simp [Op.operands]))
  case unOp op t x => exact opUn_ok hR hE ho hop (hg x (by simp [Op.operands]))
  case convert s d x => exact opConvert_ok hOK hR hE ho hop (hg x (by simp [Op.operands]))
  case sliceToArrayPointer d x => exact hpure
  case makeInterface t x => simp only [execOp, hop]; exact opMakeInterface_ok hOK hR hE (hg x (by simp [Op.operands]))
  case makeFunc f xs ys => simp only [execOp, hop]; exact opMakeFunc_ok hR hE (fun x hx => hg x (by simp [Op.operands, hx])) (fun x hx => hg x (by simp [Op.operands, hx]))
  case makeMap t r => simp only [execOp, hop]; exact opMakeMap_ok hOK hR hE (fun x hx => hg x (by simp [Op.operands, hx]))
  case makeChan t s => trivial
  case makeSlice t l c => simp only [execOp, hop]; exact opMakeSlice_ok hOK hR hE (hg l (by simp [Op.operands])) (hg c (by simp [Op.operands]))
  case slice t x lo hi mx => exact opSlice_ok hOK hR hE ho hop (hg x (by simp [Op.operands])) (fun y hy => hg y (by simp [Op.operands, hy])) (fun y hy => hg y (by simp [Op.operands, hy])) (fun y hy => hg y (by simp [Op.operands, hy]))
  case fieldAddr t x f => simp only [execOp, hop]; exact opFieldAddr_ok hOK hR hE (hg x (by simp [Op.operands]))
  case field t x f => simp only [execOp, hop]; exact opField_ok hOK hR hE (hg x (by simp [Op.operands]))
  case indexAddr t x ix => simp only [execOp, hop]; exact opIndexAddr_ok hOK hR hE (hg x (by simp [Op.operands])) (hg ix (by simp [Op.operands]))
  case index t x ix => exact opIndex_ok hOK hR hE ho hop (hg x (by simp [Op.operands])) (hg ix (by simp [Op.operands]))
  case lookup t x k ok => simp only [execOp, hop]; exact opLookup_ok hOK hR hE (hg x (by simp [Op.operands])) (hg k (by simp [Op.operands]))
  case mapUpdate t m k v => simp only [execOp, hop]; exact opUpdate_ok hOK hR hE (hg m (by simp [Op.operands])) (hg k (by simp [Op.operands])) (hg v (by simp [Op.operands]))
  case mapEntry t m k => simp only [execOp, hop]; exact opMapEntry_ok hOK hR hE (hg m (by simp [Op.operands])) (hg k (by simp [Op.operands]))
  case entryStore t m s v => simp only [execOp, hop]; exact opEntryStore_ok hR hE (hg m (by simp [Op.operands])) (hg s (by simp [Op.operands])) (hg v (by simp [Op.operands]))
  case range t x => simp only [execOp, hop]; exact opRange_ok hOK hR hE (hg x (by simp [Op.operands]))
  case next x s => simp only [execOp, hop]; exact opNext_ok hR hE (hg x (by simp [Op.operands]))
  case entry x => simp only [execOp, hop]; exact opEntry_ok hR hE (hg x (by simp [Op.operands]))
  case typeAssert x xt t ok => exact opTypeAssert_ok hOK hR hE ho hop (hg x (by simp [Op.operands]))
  case extract t i => simp only [execOp, hop]; exact opExtract_ok hR hE (hg t (by simp [Op.operands]))
  case call c => exact opCall_ok hOK hR hE ho hop
  case go c => trivial
  case defer c => simp only [execOp, hop]; exact opDefer_ok hR hE (fun x hx => hg x hx)
  case panic x => simp only [execOp, hop]; exact opPanic_ok hR hE (hg x (by simp [Op.operands]))
  case send c x => trivial
  case recv t c ok => trivial
  case select cs b => trivial
end
end Ev
end

section
namespace Ev
open Go

section
variable {E : Env} {G : Good} {ρ : Rho} {st : St} {w : World} {T T' : Tr AV} {a : Act} {o : Oper}

/-! ### an operation depends on the environment by its operands alone -/
def SameOn (T T' : Tr AV) (o : Oper) : Prop := ∀ x ∈ o.op.operands, evalO T x = evalO T' x

theorem aPure_congr (h : SameOn T T' o) (hs : noSel o = true) : aPure E o T st = aPure E o T' st := by
  unfold aPure
  have h1 : (o.op.operands.all fun x => (evalO T x).toVal.isSome) = (o.op.operands.all fun x => (evalO T' x).toVal.isSome) := by
    rw [Bool.eq_iff_iff, Array.all_eq_true_iff_forall_mem, Array.all_eq_true_iff_forall_mem]
    exact ⟨fun g x hx => by rw [← h x hx]; exact g x hx, fun g x hx => by rw [h x hx]; exact g x hx⟩
  have h2 : execOp (valO T) o = execOp (valO T') o := execOp_congr o (noSel_spec hs) (fun x hx => by simp only [valO, h x hx])
  rw [h1, h2]

theorem callF_congr {f : FuncId} {args : List AV} (h : SameOn T T' o) (hs : noSel o = true) : callF E o f args st T = callF E o f args st T' := by
  unfold callF
  rw [aPure_congr h hs]

theorem callV_congr {fv : AV} {args : List AV} (h : SameOn T T' o) (hs : noSel o = true) : callV E o fv args st T = callV E o fv args st T' := by
  unfold callV
  split
  · exact callF_congr h hs
  · exact callF_congr h hs
  · rfl
  · rfl

theorem aBin_congr {op : BinOp} {t : TypeId} {u v : AV} (h : SameOn T T' o) (hs : noSel o = true) : aBin E o op t u v T st = aBin E o op t u v T' st := by
  have hp := aPure_congr (E := E) (st := st) h hs
  have hV : ∀ u, aBinV E o op t u v T st = aBinV E o op t u v T' st := fun u => by unfold aBinV; rw [hp]
  cases u <;> first | exact hV _ | rfl | skip
  rename_i m
  show aBin2 E o op m v T st = aBin2 E o op m v T' st
  cases v <;> first | exact hp | rfl | skip
  rename_i n
  show contBin E o T st (binI op m n) = contBin E o T' st (binI op m n)
  cases binI op m n <;> first | exact hp | rfl

theorem mapE_congr {xs : List Operand} (h : ∀ x ∈ xs, evalO T x = evalO T' x) : xs.map (evalO T) = xs.map (evalO T') := List.map_congr_left h

theorem opCall_congr {c : Call} (hop : o.op = .call c) (h : SameOn T T' o) (hs : noSel o = true) : opCall E o T st c = opCall E o T' st c := by
  have hp := aPure_congr (E := E) (st := st) h hs
  have hx : ∀ x ∈ c.args.toList, evalO T x = evalO T' x := fun x hx => h x (by rw [hop]; simp [Op.operands, Call.operands]; exact .inr (by simpa using hx))
  unfold opCall
  cases hc : c.callee with
  | builtin b =>
    dsimp only
    rcases hl : c.args.toList with _ | ⟨x, _ | ⟨y, _ | ⟨z, l⟩⟩⟩
    · cases b <;> first | exact hp | rfl
    · have h1 : evalO T x = evalO T' x := hx x (by rw [hl]; simp)
      rcases c.argTypes.toList with _ | ⟨t, _ | ⟨u, l⟩⟩ <;> cases b <;> first | exact hp | rfl | simp only [hp, h1]
    · have h1 : evalO T x = evalO T' x := hx x (by rw [hl]; simp)
      have h2 : evalO T y = evalO T' y := hx y (by rw [hl]; simp)
      rcases c.argTypes.toList with _ | ⟨t, _ | ⟨u, _ | ⟨t3, l⟩⟩⟩ <;> cases b <;> first | exact hp | rfl | simp only [hp, h1, h2]
    · cases b <;> first | exact hp | rfl
  | value f =>
    have hf : evalO T f = evalO T' f := h f (by rw [hop]; simp [Op.operands, Call.operands, hc])
    dsimp only
    rw [hf, mapE_congr hx, callV_congr h hs]
  | invoke r m => rfl

theorem parts_congr {ps : Array (Nat × Operand)} (h : ∀ p ∈ ps, evalO T p.2 = evalO T' p.2) : (ps.toList.map fun (i, x) => (i, evalO T x)) = (ps.toList.map fun (i, x) => (i, evalO T' x)) := by
  apply List.map_congr_left
  intro p hp
  obtain ⟨i, x⟩ := p
  simp only [h (i, x) (by simpa using hp)]

theorem aOp_congr (h : SameOn T T' o) (hs : noSel o = true) : aOp E o T st = aOp E o T' st := by
  have hp := aPure_congr (E := E) (st := st) h hs
  have hb := fun op t u v => aBin_congr (E := E) (st := st) (op := op) (t := t) (u := u) (v := v) h hs
  have hcall := fun c (hc : o.op = .call c) => opCall_congr (E := E) (st := st) hc h hs
  unfold SameOn at h
  obtain ⟨dst, op, ty, pos, af, gd⟩ := o
  simp only at h hcall
  cases op <;> simp only [Op.operands] at h
  case move x => simp only [aOp, opMove, h x (by simp)]
  case assign x => simp only [aOp, opMove, h x (by simp)]
  case pick c x y => simp only [aOp, opPick, h c (by simp), h x (by simp), h y (by simp)]
  case alloc t => rfl
  case box t x => simp only [aOp, opBox, h x (by simp)]
  case build t ps => simp only [aOp, opBuild, parts_congr (T := T) (T' := T') (ps := ps) (fun p hp' => h p.2 (by simp; exact ⟨p.1, hp'⟩))]
  case buildSlice t n ps => simp only [aOp, opBuildSlice, parts_congr (T := T) (T' := T') (ps := ps) (fun p hp' => h p.2 (by simp; exact ⟨p.1, hp'⟩))]
  case insert t m k v => simp only [aOp, opUpdate, h m (by simp), h k (by simp), h v (by simp)]
  case load t x => simp only [aOp, opLoad, h x (by simp)]
  case store t x y => simp only [aOp, opStore, h x (by simp), h y (by simp)]
  case ready g => exact hp
  case waits g => exact hp
  case nilCheck x => simp only [aOp, opNilCheck, h x (by simp)]
  case binOp op t x y yt => simp only [aOp, opBinOp, h x (by simp), h y (by simp), hb]
  case unOp op t x => simp only [aOp, opUn, h x (by simp), hp]
  case convert s d x => simp only [aOp, opConvert, h x (by simp), hp]
  case sliceToArrayPointer d x => exact hp
  case makeInterface t x => simp only [aOp, opMakeInterface, h x (by simp)]
  case makeFunc f xs ys => simp only [aOp, opMakeFunc, mapE_congr (T := T) (T' := T') (xs := xs.toList) (fun x hx => h x (by simp at hx ⊢; exact .inl hx)), mapE_congr (T := T) (T' := T') (xs := ys.toList) (fun x hx => h x (by simp at hx ⊢; exact .inr hx))]
  case makeMap t r => cases r with
    | none => rfl
    | some x => simp only [aOp, opMakeMap, h x (by simp)]
  case makeChan t s => rfl
  case makeSlice t l c => simp only [aOp, opMakeSlice, h l (by simp), h c (by simp)]
  case slice t x lo hi mx =>
    have hm : ∀ (z : Option Operand), (∀ y, z = some y → evalO T y = evalO T' y) → z.map (evalO T) = z.map (evalO T') := fun z hz => by
      cases z with
      | none => rfl
      | some y => simp [hz y rfl]
    simp only [aOp, opSlice, h x (by simp), hp, hm lo (fun y hy => h y (by simp [hy])), hm hi (fun y hy => h y (by simp [hy])), hm mx (fun y hy => h y (by simp [hy]))]
  case fieldAddr t x f => simp only [aOp, opFieldAddr, h x (by simp)]
  case field t x f => simp only [aOp, opField, h x (by simp)]
  case indexAddr t x ix => simp only [aOp, opIndexAddr, h x (by simp), h ix (by simp)]
  case index t x ix => simp only [aOp, opIndex, h x (by simp), h ix (by simp), hp]
  case lookup t x k ok => simp only [aOp, opLookup, h x (by simp), h k (by simp)]
  case mapUpdate t m k v => simp only [aOp, opUpdate, h m (by simp), h k (by simp), h v (by simp)]
  case mapEntry t m k => simp only [aOp, opMapEntry, h m (by simp), h k (by simp)]
  case entryStore t m s v => simp only [aOp, opEntryStore, h m (by simp), h s (by simp), h v (by simp)]
  case range t x => simp only [aOp, opRange, h x (by simp)]
  case next x s => simp only [aOp, opNext, h x (by simp)]
  case entry x => simp only [aOp, opEntry, h x (by simp)]
  case typeAssert x xt t ok => simp only [aOp, opTypeAssert, h x (by simp), hp]
  case extract t i => simp only [aOp, opExtract, h t (by simp)]
  case call c => exact hcall c rfl
  case go c => rfl
  case defer c =>
    have hx : ∀ x ∈ c.args.toList, evalO T x = evalO T' x := fun x hx => h x (by simp [Call.operands]; exact .inr (by simpa using hx))
    simp only [aOp, opDefer, mapE_congr hx]
    cases hc : c.callee with
    | value f => simp only [h f (by simp [Call.operands, hc])]
    | builtin b => rfl
    | invoke r m => rfl
  case panic x => simp only [aOp, opPanic, h x (by simp)]
  case send c x => rfl
  case recv t c ok => rfl
  case select cs b => rfl
end
end Ev
end

section
namespace Ev
open Go

/-- a frame at work, in a round or not -/
def At (b : Frame) (ar : Option Nat) (a : Act) (todo : List Item) : Frame :=
  { fn := b.fn, tmps := a.tmps, todo, defers := a.defers, mode := .run, kind := b.kind, roundOf := ar }

theorem eval_At (b : Frame) (ar : Option Nat) (a : Act) (todo : List Item) (x : Operand) : (At b ar a todo).eval x = a.eval x := by cases x <;> rfl
theorem eval_At' (b : Frame) (ar : Option Nat) (a : Act) (todo : List Item) : (At b ar a todo).eval = a.eval := funext (eval_At b ar a todo)

theorem finish_At (b : Frame) (ar : Option Nat) (a : Act) (ops : Array Oper) (i : Nat) (rest : List Nat) (k : List Item) (v : Value) :
    (At b ar a (.inRegion ops (i :: rest) :: k)).finish v = At b ar (a.put ((ops[i]?).bind (·.dst)) v) (.inRegion ops rest :: k) := by
  cases h : (ops[i]?).bind (·.dst) <;> simp [Frame.finish, At, Act.put, h]

theorem raise_At (b : Frame) (ar : Option Nat) (a : Act) (todo : List Item) (chain : List PanicEntry) :
    (At b ar a todo).raise chain = { At b ar a todo with mode := .panicking chain } := rfl

section
variable {P : Program} {b : Frame} {ar : Option Nat} {a : Act} {k : List Item} {cs : List Frame} {w : World} {ops : Array Oper}

theorem sm_skip : step P (lone (At b ar a (.code .skip :: k)) cs w) = .next (lone (At b ar a k) cs w) := step_lone_go (by simp [stepG, stepG.exec, At])
theorem sm_label {l : Nat} : step P (lone (At b ar a (.code (.label l) :: k)) cs w) = .next (lone (At b ar a k) cs w) := step_lone_go (by simp [stepG, stepG.exec, At])
theorem sm_inBlock {id : Nat} : step P (lone (At b ar a (.inBlock id :: k)) cs w) = .next (lone (At b ar a k) cs w) := step_lone_go (by simp [stepG, stepG.exec, At])
theorem sm_inScope {c : Code} : step P (lone (At b ar a (.inScope c :: k)) cs w) = .next (lone (At b ar a k) cs w) := step_lone_go (by simp [stepG, stepG.exec, At])
theorem sm_seq {x y : Code} : step P (lone (At b ar a (.code (.seq x y) :: k)) cs w) = .next (lone (At b ar a (.code x :: .code y :: k)) cs w) := step_lone_go (by simp [stepG, stepG.exec, At])
theorem sm_cond {c : Operand} {x y : Code} {t : Bool} (h : a.eval c = .bool t) : step P (lone (At b ar a (.code (.cond c x y) :: k)) cs w) = .next (lone (At b ar a (.code (if t then x else y) :: k)) cs w) :=
  step_lone_go (by
    have := eval_At b ar a (.code (.cond c x y) :: k) c
    simp only [At] at this
    simp [stepG, stepG.exec, At, this, h])
theorem sm_block {id : Nat} {c : Code} : step P (lone (At b ar a (.code (.block id c) :: k)) cs w) = .next (lone (At b ar a (.code c :: .inBlock id :: k)) cs w) := step_lone_go (by simp [stepG, stepG.exec, At])
theorem sm_loop {c : Code} : step P (lone (At b ar a (.code (.loop c) :: k)) cs w) = .next (lone (At b ar a (.code c :: .inLoop c :: k)) cs w) := step_lone_go (by simp [stepG, stepG.exec, At])
theorem sm_inLoop {c : Code} : step P (lone (At b ar a (.inLoop c :: k)) cs w) = .next (lone (At b ar a (.code c :: .inLoop c :: k)) cs w) := step_lone_go (by simp [stepG, stepG.exec, At])
theorem sm_scope {c : Code} : step P (lone (At b ar a (.code (.scope c) :: k)) cs w) = .next (lone (At b ar a (.code c :: .inScope c :: k)) cs w) := step_lone_go (by simp [stepG, stepG.exec, At])
theorem sm_exit {id : Nat} {k' : List Item} (h : exitTo id k = some k') : step P (lone (At b ar a (.code (.exit id) :: k)) cs w) = .next (lone (At b ar a k') cs w) := step_lone_go (by simp [stepG, stepG.exec, At, h])
theorem sm_ret : step P (lone (At b none a (.code .ret :: k)) cs w) = .next (lone { At b none a (.code .ret :: k) with mode := .returning } cs w) := step_lone_go (by simp [stepG, stepG.exec, At])
theorem sm_end : step P (lone (At b none a []) cs w) = .next (lone { At b none a [] with mode := .returning } cs w) := step_lone_go (by simp [stepG, stepG.exec, At])
theorem sm_region {id : Nat} : step P (lone (At b ar a (.code (.region id ops false) :: k)) cs w) = .next (lone (At b ar a (.inRegion ops (List.range ops.size) :: k)) cs w) := step_lone_go (by simp [stepG, stepG.exec, At])
theorem sm_region_draw {id : Nat} : step P (lone (At b ar a (.code (.region id ops true) :: k)) cs w) =
      .next (lone (At b ar a (.inRegion ops (Region.schedule (P.follows .mixedOrders) ops (w.tape w.drawn (.order b.fn id))) :: k)) cs { w with drawn := w.drawn + 1 }) :=
  step_lone_go (by simp [stepG, stepG.exec, At, choose, Sem.run, Question.forced, Question.cut])
theorem sm_region_end : step P (lone (At b ar a (.inRegion ops [] :: k)) cs w) = .next (lone (At b ar a k) cs w) := step_lone_go (by simp [stepG, stepG.exec, At])
theorem sm_op_skip {i : Nat} {rest : List Nat} (h : ((ops[i]?).map (Region.wanted · (yielded ops a.tmps))).getD false = false) :
    step P (lone (At b ar a (.inRegion ops (i :: rest) :: k)) cs w) = .next (lone (At b ar (a.put ((ops[i]?).bind (·.dst)) undef) (.inRegion ops rest :: k)) cs w) := by
  rw [← finish_At]
  exact step_lone_go (by
    have h' := h
    simp only [At] at *
    simp [stepG, stepG.exec, h'])

theorem stepG_opA {i : Nat} {rest : List Nat} {o : Oper} (ho : ops[i]? = some o) (hw : Region.wanted o (yielded ops a.tmps) = true) (hd : ar = none ∨ ∀ c, o.op ≠ .defer c) :
    stepG P true { frame := At b ar a (.inRegion ops (i :: rest) :: k), callers := cs, status := .running, dying := none } w =
      stepG.apply P true (At b ar a (.inRegion ops (i :: rest) :: k)) cs none (execOp a.eval o) w := by
  have he := eval_At' b ar a (.inRegion ops (i :: rest) :: k)
  simp only [At] at he
  rcases hd with rfl | hd
  · simp [stepG, stepG.exec, stepG.oper, Frame.oper?, At, ho, hw, he]
  · cases ar with
    | none => simp [stepG, stepG.exec, stepG.oper, Frame.oper?, At, ho, hw, he]
    | some l =>
      simp only [stepG, stepG.exec, stepG.oper, Frame.oper?, At, ho, Option.map_some, hw, Option.getD_some, if_true]
      split
      · rename_i h1 h2
        exact absurd h2 (hd _)
      · simp only [he]

/-- what an operation's result makes of the machine -/
theorem sm_value {i : Nat} {rest : List Nat} {o : Oper} {v : Value} {w' : World} (ho : ops[i]? = some o) (hw : Region.wanted o (yielded ops a.tmps) = true) (hd : ar = none ∨ ∀ c, o.op ≠ .defer c)
    (hr : (execOp a.eval o).run P w = .ok (.value v) w') : step P (lone (At b ar a (.inRegion ops (i :: rest) :: k)) cs w) = .next (lone (At b ar (a.put o.dst v) (.inRegion ops rest :: k)) cs w') := by
  have hf := finish_At b ar a ops i rest k v
  rw [ho] at hf
  refine step_lone_go ?_
  rw [stepG_opA ho hw hd]
  simp only [stepG.apply, Sem.runT_eq, hr, if_true, GStep.bare_after, GStep.bare_go]
  rw [hf]; rfl

theorem sm_skipped {i : Nat} {rest : List Nat} {o : Oper} {w' : World} (ho : ops[i]? = some o) (hw : Region.wanted o (yielded ops a.tmps) = true) (hd : ar = none ∨ ∀ c, o.op ≠ .defer c)
    (hr : (execOp a.eval o).run P w = .ok .skip w') : step P (lone (At b ar a (.inRegion ops (i :: rest) :: k)) cs w) = .next (lone (At b ar (a.put o.dst undef) (.inRegion ops rest :: k)) cs w') := by
  have hf := finish_At b ar a ops i rest k undef
  rw [ho] at hf
  refine step_lone_go ?_
  rw [stepG_opA ho hw hd]
  simp only [stepG.apply, Sem.runT_eq, hr, if_true, GStep.bare_after, GStep.bare_go]
  rw [hf]; rfl

theorem sm_enter {i : Nat} {rest : List Nat} {o : Oper} {f : FuncId} {args : Array Value} {w' : World} (ho : ops[i]? = some o) (hw : Region.wanted o (yielded ops a.tmps) = true) (hd : ar = none ∨ ∀ c, o.op ≠ .defer c)
    (hr : (execOp a.eval o).run P w = .ok (.enter f args) w') :
    step P (lone (At b ar a (.inRegion ops (i :: rest) :: k)) cs w) = .next (lone (Frame.enter P f args .normal) (At b ar a (.inRegion ops (i :: rest) :: k) :: cs) w') := by
  refine step_lone_go ?_
  rw [stepG_opA ho hw hd]
  simp [stepG.apply, hr, At]

theorem sm_round {i : Nat} {rest : List Nat} {o : Oper} {l : Nat} {f : FuncId} {tmps : Array Value} {as bd : Code} {w' : World} (ho : ops[i]? = some o) (hw : Region.wanted o (yielded ops a.tmps) = true) (hd : ar = none ∨ ∀ c, o.op ≠ .defer c)
    (hr : (execOp a.eval o).run P w = .ok (.round l f tmps as bd) w') :
    step P (lone (At b ar a (.inRegion ops (i :: rest) :: k)) cs w) = .next (lone (Frame.round l f tmps as bd .normal) (At b ar a (.inRegion ops (i :: rest) :: k) :: cs) w') := by
  refine step_lone_go ?_
  rw [stepG_opA ho hw hd]
  simp [stepG.apply, hr, At]

theorem sm_defer {i : Nat} {rest : List Nat} {o : Oper} {d : Deferred} {w' : World} (ho : ops[i]? = some o) (hw : Region.wanted o (yielded ops a.tmps) = true)
    (hr : (execOp a.eval o).run P w = .ok (.defer d) w') :
    step P (lone (At b none a (.inRegion ops (i :: rest) :: k)) cs w) = .next (lone (At b none ({ a with defers := d :: a.defers }.put o.dst undef) (.inRegion ops rest :: k)) cs w') := by
  have hf := finish_At b none { a with defers := d :: a.defers } ops i rest k undef
  rw [ho] at hf
  refine step_lone_go ?_
  rw [stepG_opA ho hw (.inl rfl)]
  simp only [stepG.apply, Sem.runT_eq, hr, if_true, GStep.bare_after, GStep.bare_go]
  exact congrArg (fun fr => GStep.go { frame := fr, callers := cs, status := .running, dying := none } w') hf

theorem sm_recover_none {i : Nat} {rest : List Nat} {o : Oper} {w' : World} (ho : ops[i]? = some o) (hw : Region.wanted o (yielded ops a.tmps) = true)
    (hr : (execOp a.eval o).run P w = .ok .recover w') (ht : tryRecover (At b none a (.inRegion ops (i :: rest) :: k)) cs = none) :
    step P (lone (At b none a (.inRegion ops (i :: rest) :: k)) cs w) = .next (lone (At b none (a.put o.dst .nilIface) (.inRegion ops rest :: k)) cs w') := by
  have hf := finish_At b none a ops i rest k .nilIface
  rw [ho] at hf
  refine step_lone_go ?_
  rw [stepG_opA ho hw (.inl rfl)]
  simp only [stepG.apply, Sem.runT_eq, hr, if_true, GStep.bare_after]
  have hro : (At b none a (.inRegion ops (i :: rest) :: k)).roundOf = none := rfl
  simp only [hro, ht, GStep.bare_go]
  rw [hf]; rfl

theorem sm_recover_some {i : Nat} {rest : List Nat} {o : Oper} {w' : World} {v : Value} {cs' : List Frame} (ho : ops[i]? = some o) (hw : Region.wanted o (yielded ops a.tmps) = true)
    (hr : (execOp a.eval o).run P w = .ok .recover w') (ht : tryRecover (At b none a (.inRegion ops (i :: rest) :: k)) cs = some (v, cs')) :
    step P (lone (At b none a (.inRegion ops (i :: rest) :: k)) cs w) = .next (lone (At b none (a.put o.dst v) (.inRegion ops rest :: k)) cs' w') := by
  have hf := finish_At b none a ops i rest k v
  rw [ho] at hf
  refine step_lone_go ?_
  rw [stepG_opA ho hw (.inl rfl)]
  simp only [stepG.apply, Sem.runT_eq, hr, if_true, GStep.bare_after]
  have hro : (At b none a (.inRegion ops (i :: rest) :: k)).roundOf = none := rfl
  simp only [hro, ht, GStep.bare_go]
  rw [hf]; rfl

theorem sm_panic {i : Nat} {rest : List Nat} {o : Oper} {w' : World} {v : Value} (ho : ops[i]? = some o) (hw : Region.wanted o (yielded ops a.tmps) = true) (hd : ar = none ∨ ∀ c, o.op ≠ .defer c)
    (hr : (execOp a.eval o).run P w = .halt (.panic v) w') :
    step P (lone (At b ar a (.inRegion ops (i :: rest) :: k)) cs w) = .next (lone { At b ar a (.inRegion ops (i :: rest) :: k) with mode := .panicking [{ v, recovered := false }] } cs w') := by
  refine step_lone_go ?_
  rw [stepG_opA ho hw hd]
  simp only [stepG.apply, Sem.runT_eq, hr, if_true, GStep.bare_after, GStep.bare_go]
  rfl

/-! ### ranges over functions -/
theorem sm_rangeFunc {f : Operand} {ps : Array Tmp} {as bd : Code} {l : Nat} {mark : List Deferred} {w1 w2 : World} {g : FuncId} {args : Array Value} (h1 : (Instr.enterLoop b.fn a.tmps ps as bd ar).run P w = .ok (l, mark) w1)
    (h2 : (do let d ← resolve (At b ar { a with defers := mark ++ a.defers } (.inRangeFunc l :: k)).eval { callee := .value f, args := #[.const (.func (.yield l) #[] #[])], argTypes := #[] } 0; invoke d.target d.args : Sem Next).run P w1 = .ok (.enter g args) w2) :
    step P (lone (At b ar a (.code (.rangeFunc f ps as bd) :: k)) cs w) = .next (lone (Frame.enter P g args .normal) (At b ar { a with defers := mark ++ a.defers } (.inRangeFunc l :: k) :: cs) w2) := by
  refine step_lone_go ?_
  simp only [stepG, At, stepG.exec, Sem.runT_eq, h1, GStep.bare_after]
  simp only [At] at h2
  simp only [stepG.apply, Sem.runT_eq, h2, if_true, GStep.bare_after]
  rfl

theorem sm_endRange {l : Nat} {jump : Option Code} {w1 : World} (h1 : (Instr.endLoop l).run P w = .ok jump w1) :
    step P (lone (At b ar a (.endRangeFunc l :: k)) cs w) = .next (lone (At b ar a ((jump.map Item.code).toList ++ k)) cs w1) := by
  refine step_lone_go ?_
  simp only [stepG, At, stepG.exec, Sem.runT_eq, h1, GStep.bare_after, GStep.bare_go]

theorem finish_inRange {l : Nat} (v : Value) : (At b ar a (.inRangeFunc l :: k)).finish v = At b ar a (.endRangeFunc l :: k) := rfl

theorem sm_beginRound {l : Nat} {w1 : World} (h1 : (Instr.beginRound l).run P w = .ok () w1) :
    step P (lone (At b (some l) a (.beginRound :: k)) cs w) = .next (lone (At b (some l) a k) cs w1) := by
  refine step_lone_go ?_
  simp only [stepG, At, stepG.exec, stepG.apply, Sem.runT_eq, Option.elim, Sem.run_bind, h1, Result.andThen_ok, Sem.run_pure, if_true, GStep.bare_after, GStep.bare_go]
  rfl

/-- a round's end -/
theorem sm_leaveRound {l : Nat} {jump : Option Code} {todo : List Item} {c : Frame} {v : Value} {w1 : World} (hk : b.kind = .normal)
    (ht : (todo = [] ∧ jump = none) ∨ (∃ k, todo = .code .ret :: k ∧ jump = some .ret) ∨ (∃ id k, todo = .code (.exit id) :: k ∧ exitTo id k = none ∧ jump = some (.exit id)))
    (h1 : (Instr.endRound l jump).run P w = .ok v w1) :
    step P (lone (At b (some l) a todo) (c :: cs) w) = .next (lone (c.finish v) cs w1) := by
  refine step_lone_go ?_
  rcases ht with ⟨rfl, rfl⟩ | ⟨k, rfl, rfl⟩ | ⟨id, k, rfl, he, rfl⟩
  · simp only [stepG, At, stepG.exec, Sem.runT_eq, h1, GStep.bare_after, doReturn, hk, GStep.bare_go]
  · simp only [stepG, At, stepG.exec, Sem.runT_eq, h1, GStep.bare_after, doReturn, hk, GStep.bare_go]
  · simp only [stepG, At, stepG.exec, he, Option.elim, Sem.runT_eq, h1, GStep.bare_after, doReturn, hk, GStep.bare_go]

/-- a round that panics -/
theorem sm_panicRound {l : Nat} {todo : List Item} {c : Frame} {chain : List PanicEntry} (hd : a.defers = []) (hf : ∃ fn, P.funcs[b.fn]? = some fn) :
    step P (lone { At b (some l) a todo with mode := .panicking chain } (c :: cs) w) = .next (lone (c.raise chain) cs w) := by
  obtain ⟨fn, hf⟩ := hf
  exact step_lone_go (by simp [stepG, unwind, Frame.catches, At, hd, hf])

/-! ### the deferred calls of a range over a function -/
theorem sm_takeDeferred {fr : Frame} {r : Nat} {ar : Array Value} {ds l : List Deferred} {w1 : World} (hm : fr.mode ≠ .run) (hd : fr.defers = { target := .collected r, args := ar } :: ds) (h1 : (Instr.takeDeferred r).run P w = .ok l w1) :
    step P (lone fr cs w) = .next (lone { fr with defers := l ++ ds } cs w1) := by
  refine step_lone_go ?_
  cases hmode : fr.mode with
  | run => exact absurd hmode hm
  | returning => simp [stepG, unwind, hmode, hd, h1]
  | panicking chain => simp [stepG, unwind, hmode, hd, h1]
end
end Ev
end

section
namespace Ev
open Go

/-! ### what a piece of code must meet -/
def dstB (n : Nat) (d : Option Tmp) : Bool := match d with | some t => Nat.blt t n | none => true
theorem dstB_ok {n m : Nat} {d : Option Tmp} (h : dstB n d = true) (hm : n ≤ m) : dstOk m d := by
  intro t ht
  subst ht
  have : t < n := by simpa [dstB, Nat.blt_eq] using h
  exact Nat.lt_of_lt_of_le this hm

def opOK (g n : Nat) (o : Oper) : Bool := goodOp g o && dstB n o.dst

/-- the check of drawn regions is a parameter -/
def goodC (D : Array Oper → Bool) (g n : Nat) : Code → Bool
  | .region _ ops d => ops.all (opOK g n) && (!d || D ops)
  | .seq a b => goodC D g n a && goodC D g n b
  | .cond c a b => goodX g c && goodC D g n a && goodC D g n b
  | .block _ b | .loop b | .scope b => goodC D g n b
  | .rangeFunc f ps a b => goodX g f && ps.all (fun t => Nat.blt t n) && goodC D g n a && goodC D g n b
  | _ => true

theorem opOK_mono {g n m : Nat} {o : Oper} (h : opOK g n o = true) (hm : n ≤ m) : opOK g m o = true := by
  unfold opOK at *
  simp only [Bool.and_eq_true] at *
  refine ⟨h.1, ?_⟩
  cases hd : o.dst with
  | none => rfl
  | some t =>
    have h2 := h.2
    rw [hd] at h2
    have : t < n := by simpa [dstB, Nat.blt_eq] using h2
    simp only [dstB, Nat.blt_eq]; exact Nat.lt_of_lt_of_le this hm

theorem goodC_mono {D : Array Oper → Bool} {g n m : Nat} (hm : n ≤ m) : ∀ {c : Code}, goodC D g n c = true → goodC D g m c = true := by
  intro c
  induction c with
  | region id ops d =>
    intro h
    simp only [goodC, Bool.and_eq_true] at *
    refine ⟨?_, h.2⟩
    rw [Array.all_eq_true_iff_forall_mem] at *
    exact fun o ho => opOK_mono (h.1 o ho) hm
  | seq a b ha hb => intro h; simp only [goodC, Bool.and_eq_true] at *; exact ⟨ha h.1, hb h.2⟩
  | cond c a b ha hb => intro h; simp only [goodC, Bool.and_eq_true] at *; exact ⟨⟨h.1.1, ha h.1.2⟩, hb h.2⟩
  | block _ b ih => intro h; simp only [goodC] at *; exact ih h
  | loop b ih => intro h; simp only [goodC] at *; exact ih h
  | scope b ih => intro h; simp only [goodC] at *; exact ih h
  | rangeFunc f ps a b ha hb =>
    intro h
    simp only [goodC, Bool.and_eq_true] at *
    refine ⟨⟨⟨h.1.1.1, ?_⟩, ha h.1.2⟩, hb h.2⟩
    have h2 := h.1.1.2
    rw [Array.all_eq_true_iff_forall_mem] at *
    intro t ht
    have h3 := h2 t ht
    simp only [Nat.blt_eq] at h3 ⊢
    exact Nat.lt_of_lt_of_le h3 hm
  | _ => intro _; rfl

def GE (D : Array Oper → Bool) (E : Env) : Good := fun n c => goodC D E.P.globals.size n c = true

structure BOK (D : Array Oper → Bool) (E : Env) : Prop where
  body : ∀ f fn c, E.fn f = some fn → fn.body = some c → goodC D E.P.globals.size fn.ntmps c = true
  plug : ∀ f p, E.plug f = some p → ∀ args st v, p args st = some v → ∀ (ρ : Rho) (w : World) xs, Rel E (GE D E) ρ st w.heap → VRs ρ args xs →
    Calls E.P f ⟨xs⟩ w fun e w' => ∃ x ρ', e = .returned x ∧ VR ρ' v.1 x ∧ Mv E (GE D E) ρ st w ρ' v.2 w'

/-! ### relations of the machine's state -/
def PanR (ρ : Rho) : List APan → List PanicEntry → Prop
  | [], [] => True
  | a :: as, p :: ps => (VR ρ a.v p.v ∧ p.recovered = a.recovered ∧ p.goexit = false) ∧ PanR ρ as ps
  | _, _ => False

theorem PanR.mono {ρ ρ' : Rho} (le : Le ρ ρ') : ∀ {as : List APan} {ps : List PanicEntry}, PanR ρ as ps → PanR ρ' as ps
  | [], [], _ => trivial
  | _ :: _, _ :: _, h => ⟨⟨h.1.1.mono le, h.1.2⟩, PanR.mono le h.2⟩
  | [], _ :: _, h => h.elim
  | _ :: _, [], h => h.elim

theorem PanR.append {ρ : Rho} : ∀ {as bs : List APan} {ps qs : List PanicEntry}, PanR ρ as ps → PanR ρ bs qs → PanR ρ (as ++ bs) (ps ++ qs)
  | [], _, [], _, _, h => h
  | _ :: _, _, _ :: _, _, h, h' => ⟨h.1, PanR.append h.2 h'⟩
  | [], _, _ :: _, _, h, _ => h.elim
  | _ :: _, _, [], _, h, _ => h.elim

def ModeR (ρ : Rho) : AMode → FrameMode → Prop
  | .returning, m => m = .returning
  | .panicking c, m => ∃ l, m = .panicking l ∧ PanR ρ c l

theorem ModeR.mono {ρ ρ' : Rho} (le : Le ρ ρ') {u : AMode} {m : FrameMode} (h : ModeR ρ u m) : ModeR ρ' u m := by
  cases u with
  | returning => exact h
  | panicking c => obtain ⟨l, h1, h2⟩ := h; exact ⟨l, h1, h2.mono le⟩

def UR (ρ : Rho) (b : Frame) : Option AMode → List Frame → Prop
  | none, _ => b.kind = .normal
  | some m, cs => b.kind = .deferred ∧ ∃ c cs0, cs = c :: cs0 ∧ ModeR ρ m c.mode

theorem UR.mono {ρ ρ' : Rho} (le : Le ρ ρ') {b : Frame} {u : Option AMode} {cs : List Frame} (h : UR ρ b u cs) : UR ρ' b u cs := by
  cases u with
  | none => exact h
  | some m => obtain ⟨h1, c, cs0, h2, h3⟩ := h; exact ⟨h1, c, cs0, h2, h3.mono le⟩

/-- the callers may only turn in the nearest one's mode, and that behind a deferred frame alone -/
def CsU (u : Option AMode) (cs cs' : List Frame) : Prop :=
  cs' = cs ∨ (u.isSome = true ∧ ∃ c cs0 m', cs = c :: cs0 ∧ cs' = { c with mode := m' } :: cs0)

theorem CsU.trans {u u' : Option AMode} (hu : u'.isSome = u.isSome) {cs cs' cs'' : List Frame} (h : CsU u cs cs') (h' : CsU u' cs' cs'') : CsU u cs cs'' := by
  rcases h with rfl | ⟨h1, c, cs0, m', rfl, rfl⟩
  · rcases h' with rfl | ⟨h1', h2⟩
    · exact .inl rfl
    · exact .inr ⟨hu ▸ h1', h2⟩
  · rcases h' with rfl | ⟨_, c', cs0', m'', h2, rfl⟩
    · exact .inr ⟨h1, c, cs0, m', rfl, rfl⟩
    · injection h2 with h2 h3
      subst h2; subst h3
      exact .inr ⟨h1, c, cs0, m'', rfl, rfl⟩

structure Mw (E : Env) (G : Good) (ρ : Rho) (st : St) (w : World) (ρ' : Rho) (st' : St) (w' : World) : Prop where
  rel : Rel E G ρ' st' w'.heap
  ext : Ext ρ st w.heap ρ' st' w'.heap
  same : Same w w'

theorem Mv.mw {E : Env} {G : Good} {ρ ρ' : Rho} {st st' : St} {w w' : World} (h : Mv E G ρ st w ρ' st' w') : Mw E G ρ st w ρ' st' w' := ⟨h.rel, h.ext, h.same⟩
theorem Mw.refl {E : Env} {G : Good} {ρ : Rho} {st : St} {w : World} (r : Rel E G ρ st w.heap) : Mw E G ρ st w ρ st w := (Mv.refl r).mw
theorem Mw.trans {E : Env} {G : Good} {ρ ρ' ρ'' : Rho} {st st' st'' : St} {w w' w'' : World} (a : Mw E G ρ st w ρ' st' w') (b : Mw E G ρ' st' w' ρ'' st'' w'') : Mw E G ρ st w ρ'' st'' w'' :=
  ⟨b.rel, a.ext.trans b.ext, a.same.trans b.same⟩
theorem Mw.withU {E : Env} {G : Good} {ρ ρ' : Rho} {st st' : St} {w w' : World} (h : Mw E G ρ st w ρ' st' w') (u u' : Option AMode) : Mw E G ρ { st with u := u } w ρ' { st' with u := u' } w' :=
  ⟨h.rel.withU _, h.ext.withU _ _, h.same⟩
theorem Mw.withR {E : Env} {G : Good} {ρ ρ' : Rho} {st st' : St} {w w' : World} (h : Mw E G ρ st w ρ' st' w') (u' : Option AMode) : Mw E G ρ st w ρ' { st' with u := u' } w' :=
  ⟨h.rel.withU _, h.ext.withU st.u u', h.same⟩
theorem Mw.withL {E : Env} {G : Good} {ρ ρ' : Rho} {st st' : St} {w w' : World} {u : Option AMode} (h : Mw E G ρ { st with u := u } w ρ' st' w') : Mw E G ρ st w ρ' st' w' :=
  ⟨h.rel, ⟨h.ext.mono, h.ext.old, h.ext.virt, h.ext.n, h.ext.size, h.ext.keep, h.ext.dom⟩, h.same⟩

/-- the state of a frame, abstract and real -/
structure Sit (D : Array Oper → Bool) (E : Env) (ρ : Rho) (b : Frame) (n : Nat) (T : Tr AV) (df : List ADef) (st : St) (a : Act) (w : World) (cs : List Frame) : Prop where
  rel : Rel E (GE D E) ρ st w.heap
  er : ER ρ T a.tmps
  n : n ≤ a.tmps.size
  df : DRs ρ df a.defers
  ur : UR ρ b st.u cs

/-- from one situation to another -/
structure To (D : Array Oper → Bool) (E : Env) (ρ : Rho) (b : Frame) (n : Nat) (st : St) (w : World) (cs : List Frame) (ρ' : Rho) (T' : Tr AV) (df' : List ADef) (st' : St) (a' : Act) (w' : World) (cs' : List Frame) : Prop where
  sit : Sit D E ρ' b n T' df' st' a' w' cs'
  mw : Mw E (GE D E) ρ st w ρ' st' w'
  cs : CsU st.u cs cs'
  u : st'.u.isSome = st.u.isSome

theorem To.trans {D : Array Oper → Bool} {E : Env} {ρ ρ' ρ'' : Rho} {b : Frame} {n : Nat} {st st' st'' : St} {w w' w'' : World} {cs cs' cs'' : List Frame} {T' T'' : Tr AV} {df' df'' : List ADef} {a' a'' : Act}
    (h : To D E ρ b n st w cs ρ' T' df' st' a' w' cs') (h' : To D E ρ' b n st' w' cs' ρ'' T'' df'' st'' a'' w'' cs'') : To D E ρ b n st w cs ρ'' T'' df'' st'' a'' w'' cs'' :=
  ⟨h'.sit, h.mw.trans h'.mw, h.cs.trans h.u h'.cs, h'.u.trans h.u⟩

theorem To.refl {D : Array Oper → Bool} {E : Env} {ρ : Rho} {b : Frame} {n : Nat} {T : Tr AV} {df : List ADef} {st : St} {a : Act} {w : World} {cs : List Frame} (h : Sit D E ρ b n T df st a w cs) :
    To D E ρ b n st w cs ρ T df st a w cs := ⟨h, Mw.refl h.rel, .inl rfl, rfl⟩

/-- what the outcome of a piece of code says of the machine that stands at m -/
def CodeR (D : Array Oper → Bool) (E : Env) (ρ : Rho) (b : Frame) (car : Option Nat) (n : Nat) (k : List Item) (st : St) (w : World) (cs : List Frame) (m : Machine) : Out → Prop
  | .normal T df st' => ∃ ρ' a' w' cs', To D E ρ b n st w cs ρ' T df st' a' w' cs' ∧ Steps E.P m (lone (At b car a' k) cs' w')
  | .exit id T df st' => ∃ ρ' a' w' cs' k', To D E ρ b n st w cs ρ' T df st' a' w' cs' ∧ exitTo id k' = exitTo id k ∧ Steps E.P m (lone (At b car a' (.code (.exit id) :: k')) cs' w')
  | .ret T df st' => ∃ ρ' a' w' cs' k', To D E ρ b n st w cs ρ' T df st' a' w' cs' ∧ Steps E.P m (lone (At b car a' (.code .ret :: k')) cs' w')
  | .panic c T df st' => ∃ ρ' a' w' cs' todo chain, To D E ρ b n st w cs ρ' T df st' a' w' cs' ∧ PanR ρ' c chain ∧ Steps E.P m (lone { At b car a' todo with mode := .panicking chain } cs' w')
  | _ => True

/-- behind some steps -/
theorem CodeR.after {D : Array Oper → Bool} {E : Env} {ρ ρ' : Rho} {b : Frame} {car : Option Nat} {n : Nat} {k k1 : List Item} {st st' : St} {w w' : World} {cs cs' : List Frame} {m m' : Machine} {T' : Tr AV} {df' : List ADef} {a' : Act} {o : Out}
    (ht : To D E ρ b n st w cs ρ' T' df' st' a' w' cs') (hs : Steps E.P m m') (h : CodeR D E ρ' b car n k1 st' w' cs' m' o) (hk : ∀ T df s, o = .normal T df s → k1 = k) (he : ∀ id T df s, o = .exit id T df s → exitTo id k1 = exitTo id k) :
    CodeR D E ρ b car n k st w cs m o := by
  cases o with
  | no w => trivial
  | val v s => trivial
  | normal T df s => obtain ⟨ρ2, a2, w2, cs2, h1, h2⟩ := h; have := hk T df s rfl; subst this; exact ⟨ρ2, a2, w2, cs2, ht.trans h1, hs.trans h2⟩
  | exit id T df s => obtain ⟨ρ2, a2, w2, cs2, k2, h1, h2, h3⟩ := h; exact ⟨ρ2, a2, w2, cs2, k2, ht.trans h1, h2.trans (he id T df s rfl), hs.trans h3⟩
  | ret T df s => obtain ⟨ρ2, a2, w2, cs2, k2, h1, h2⟩ := h; exact ⟨ρ2, a2, w2, cs2, k2, ht.trans h1, hs.trans h2⟩
  | panic c T df s => obtain ⟨ρ2, a2, w2, cs2, k2, ch, h1, h2, h3⟩ := h; exact ⟨ρ2, a2, w2, cs2, k2, ch, ht.trans h1, h2, hs.trans h3⟩

theorem CodeR.step {D : Array Oper → Bool} {E : Env} {ρ : Rho} {b : Frame} {car : Option Nat} {n : Nat} {k : List Item} {st : St} {w : World} {cs : List Frame} {m m' : Machine} {o : Out}
    (hs : step E.P m = .next m') (h : CodeR D E ρ b car n k st w cs m' o) : CodeR D E ρ b car n k st w cs m o := by
  cases o with
  | no w => trivial
  | val v s => trivial
  | normal T df s => obtain ⟨ρ2, a2, w2, cs2, h1, h2⟩ := h; exact ⟨ρ2, a2, w2, cs2, h1, .head hs h2⟩
  | exit id T df s => obtain ⟨ρ2, a2, w2, cs2, k2, h1, h2, h3⟩ := h; exact ⟨ρ2, a2, w2, cs2, k2, h1, h2, .head hs h3⟩
  | ret T df s => obtain ⟨ρ2, a2, w2, cs2, k2, h1, h2⟩ := h; exact ⟨ρ2, a2, w2, cs2, k2, h1, .head hs h2⟩
  | panic c T df s => obtain ⟨ρ2, a2, w2, cs2, k2, ch, h1, h2, h3⟩ := h; exact ⟨ρ2, a2, w2, cs2, k2, ch, h1, h2, .head hs h3⟩

/-- the number of the round, abstract and real -/
def ArR (ρ : Rho) : Option Nat → Option Nat → Prop
  | none, none => True
  | some l, some b => ∃ e, ρ l = some (b, e)
  | _, _ => False

theorem ArR.mono {ρ ρ' : Rho} (le : Le ρ ρ') {x y : Option Nat} (h : ArR ρ x y) : ArR ρ' x y := by
  cases x <;> cases y <;> first | exact h | (obtain ⟨e, he⟩ := h; exact ⟨e, le _ _ he⟩)

def CallR (D : Array Oper → Bool) (E : Env) (ρ : Rho) (f : FuncId) (xs : List Value) (st : St) (w : World) : Out → Prop
  | .val v st' => Calls E.P f ⟨xs⟩ w fun e w' => ∃ x ρ', e = .returned x ∧ VR ρ' v x ∧ Mw E (GE D E) ρ st w ρ' st' w' ∧ st'.u = st.u
  | .panic c _ _ st' => Calls E.P f ⟨xs⟩ w fun e w' => ∃ chain ρ', e = .panicked chain ∧ PanR ρ' c chain ∧ Mw E (GE D E) ρ st w ρ' st' w' ∧ st'.u = st.u
  | _ => True

def CallDR (D : Array Oper → Bool) (E : Env) (ρ : Rho) (f : FuncId) (xs : List Value) (st : St) (mode : FrameMode) (w : World) : Out → Prop
  | .val _ st' => CallsD E.P f ⟨xs⟩ mode w fun e u' w' => ∃ x ρ' um, e = .returned x ∧ Mw E (GE D E) ρ st w ρ' st' w' ∧ st'.u = some um ∧ ModeR ρ' um u'
  | .panic c _ _ st' => CallsD E.P f ⟨xs⟩ mode w fun e u' w' => ∃ chain ρ' um, e = .panicked chain ∧ PanR ρ' c chain ∧ Mw E (GE D E) ρ st w ρ' st' w' ∧ st'.u = some um ∧ ModeR ρ' um u'
  | _ => True

def LeaveR (D : Array Oper → Bool) (E : Env) (ρ : Rho) (fn : Func) (a : Act) (mode : FrameMode) (st : St) (w : World) : Out → Prop
  | .val v st' => ∀ (fr : Frame) (cs : List Frame), fr.mode = mode → fr.defers = a.defers → fr.tmps = a.tmps → E.P.funcs[fr.fn]? = some fn → fr.kind = .normal →
      ∃ x ρ' w' fr', Steps E.P (lone fr cs w) (lone fr' cs w') ∧ fr'.fn = fr.fn ∧ fr'.leaving E.P w' (.returned x) ∧ VR ρ' v x ∧ Mw E (GE D E) ρ st w ρ' st' w' ∧ st'.u = st.u
  | .panic c _ _ st' => ∀ (fr : Frame) (cs : List Frame), fr.mode = mode → fr.defers = a.defers → fr.tmps = a.tmps → E.P.funcs[fr.fn]? = some fn → fr.kind = .normal →
      ∃ chain ρ' w' fr', Steps E.P (lone fr cs w) (lone fr' cs w') ∧ fr'.fn = fr.fn ∧ fr'.leaving E.P w' (.panicked chain) ∧ PanR ρ' c chain ∧ Mw E (GE D E) ρ st w ρ' st' w' ∧ st'.u = st.u
  | _ => True

def roundTmps (lp : Loop) (xs : List Value) : Array Value := (lp.params.zip ⟨xs⟩).foldl (fun tmps (t, a) => tmps.setIfInBounds t a) lp.tmps

def RoundR (D : Array Oper → Bool) (E : Env) (ρ : Rho) (lb : Nat) (xs : List Value) (st : St) (w : World) : Out → Prop
  | .val v st' => ∃ lp, w.heap[lb]? = some (.loop lp) ∧ xs.length = lp.params.size ∧ ∀ (c : Frame) (cs : List Frame), ∃ x ρ' w', Steps E.P (lone (Frame.round lb lp.fn (roundTmps lp xs) lp.assign lp.body .normal) (c :: cs) w) (lone (c.finish x) cs w') ∧ VR ρ' v x ∧ Mw E (GE D E) ρ st w ρ' st' w' ∧ st'.u = st.u
  | .panic ch _ _ st' => ∃ lp, w.heap[lb]? = some (.loop lp) ∧ xs.length = lp.params.size ∧ ∀ (c : Frame) (cs : List Frame), ∃ chain ρ' w', Steps E.P (lone (Frame.round lb lp.fn (roundTmps lp xs) lp.assign lp.body .normal) (c :: cs) w) (lone (c.raise chain) cs w') ∧ PanR ρ' ch chain ∧ Mw E (GE D E) ρ st w ρ' st' w' ∧ st'.u = st.u
  | _ => True

/-- what stands for a piece of code among the items -/
inductive Entry : Item → Code → Prop
  | code (c : Code) : Entry (.code c) c
  | loop (c : Code) : Entry (.inLoop c) (.loop c)

/-- the evaluator's word about each kind of task -/
structure RecOK (D : Array Oper → Bool) (E : Env) (ev : Rec) : Prop where
  code : ∀ ar c T df f st ρ b car n k a w cs, Sit D E ρ b n T df st a w cs → goodC D E.P.globals.size n c = true → ArR ρ ar car → (ar.isSome = true → st.u = none) → b.fn = f → (∃ fn, E.P.funcs[f]? = some fn) →
    ∀ it, Entry it c → CodeR D E ρ b car n k st w cs (lone (At b car a (it :: k)) cs w) (ev (.code ar c T df f) st)
  call : ∀ f args st ρ w xs, Rel E (GE D E) ρ st w.heap → VRs ρ args xs → CallR D E ρ f xs st w (ev (.call f args) st)
  calld : ∀ f args st ρ w xs um mode, Rel E (GE D E) ρ st w.heap → VRs ρ args xs → st.u = some um → ModeR ρ um mode → CallDR D E ρ f xs st mode w (ev (.calld f args) st)
  leave : ∀ fn T df u st ρ a mode w, Rel E (GE D E) ρ st w.heap → ER ρ T a.tmps → DRs ρ df a.defers → ModeR ρ u mode → LeaveR D E ρ fn a mode st w (ev (.leave fn T df u) st)
  round : ∀ l args st ρ w xs lb e, Rel E (GE D E) ρ st w.heap → VRs ρ args xs → ρ l = some (lb, e) → RoundR D E ρ lb xs st w (ev (.round l args) st)
end Ev
end
