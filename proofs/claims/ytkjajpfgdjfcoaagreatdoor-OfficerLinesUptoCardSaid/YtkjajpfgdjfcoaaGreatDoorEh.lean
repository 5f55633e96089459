/- Calls that are run by themselves, under a renaming of blocks; closed runs in any world that bears the tables. -/
import Derived.Test.YtkjajpfgdjfcoaaGreatDoorEg
import Derived.Below
import Derived.Lib.Join
set_option linter.unusedVariables false
set_option linter.unusedSimpArgs false
section
namespace Ev
open Go

/-! ### renaming of block numbers -/
noncomputable def valSame (a b : Value) : Bool :=
  match a, b with
    | .int k x, .int q y => k == q && x == y
    | .bool x, .bool y => x == y
    | .string x, .string y => x == y
    | .pointer none, .pointer none => true
    | .slice none l c, .slice none l' c' => l == l' && c == c'
    | .map none, .map none => true
    | .nilFunc, .nilFunc => true
    | .nilIface, .nilIface => true
    | .func (.func f) ⟨[]⟩ ⟨[]⟩, .func (.func g) ⟨[]⟩ ⟨[]⟩ => f == g
    | _, _ => false

theorem valSame_eq {a b : Value} (h : valSame a b = true) : a = b := by
  unfold valSame at h
  split at h
  case h_3 =>
    rename_i p q
    cases p; cases q
    rename_i a b
    have h2 : (a == b) = true := h
    rw [eq_of_beq h2]
  all_goals simp_all

noncomputable def isNilL (bs : List AV) : Bool := @List.casesOn AV (fun _ => Bool) bs true (fun _ _ => false)
noncomputable def onCons (bs : List AV) (f : AV → List AV → Bool) : Bool := @List.casesOn AV (fun _ => Bool) bs false (fun y ys => f y ys)

/-- the same, the left one's numbers renamed -/
noncomputable def AV.sameR (r : Nat → Nat) (a : AV) : AV → Bool :=
  @AV.rec (fun _ => AV → Bool) (fun _ => List AV → Bool)
    (fun _ => false)
    (fun n b => match b with | .num m => beqI n m | _ => false)
    (fun x b => match b with | .bool y => @Bool.rec (fun _ => Bool) (!y) y x | _ => false)
    (fun v b => match b with | .val w => valSame v w | _ => false)
    (fun i o b => match b with | .ptr j p => Nat.beq (r i) j && Nat.beq o p | _ => false)
    (fun i o l c x b => match b with | .sl j p m d y => Nat.beq (r i) j && (Nat.beq o p && (Nat.beq l m && (Nat.beq c d && @Bool.rec (fun _ => Bool) (!y) y x))) | _ => false)
    (fun b => match b with | .nes => true | _ => false)
    (fun i b => match b with | .mp j => Nat.beq (r i) j | _ => false)
    (fun f _ _ ia ic b => match b with | .fn g b d => Nat.beq f g && (ia b && ic d) | _ => false)
    (fun l b => match b with | .yld m => Nat.beq (r l) m | _ => false)
    (fun t _ ih b => match b with | .ifc u w => Nat.beq t u && ih w | _ => false)
    (fun _ ih b => match b with | .agg cs => ih cs | _ => false)
    (fun _ ih b => match b with | .tup cs => ih cs | _ => false)
    isNilL
    (fun _ _ ix ixs bs => onCons bs fun y ys => ix y && ixs ys) a

noncomputable def sameRs (r : Nat → Nat) (a : List AV) : List AV → Bool :=
  @List.rec AV (fun _ => List AV → Bool) isNilL (fun x _ ih bs => onCons bs fun y ys => AV.sameR r x y && ih ys) a

noncomputable def AV.ren (r : Nat → Nat) (a : AV) : AV :=
  @AV.rec (fun _ => AV) (fun _ => List AV)
    .top (fun n => .num n) (fun x => .bool x) (fun v => .val v) (fun i o => .ptr (r i) o) (fun i o l c x => .sl (r i) o l c x) .nes (fun i => .mp (r i))
    (fun f _ _ ia ic => .fn f ia ic) (fun l => .yld (r l)) (fun t _ ih => .ifc t ih) (fun _ ih => .agg ih) (fun _ ih => .tup ih)
    [] (fun _ _ ix ixs => ix :: ixs) a

noncomputable def renL (r : Nat → Nat) (a : List AV) : List AV := @List.rec AV (fun _ => List AV) [] (fun x _ ih => AV.ren r x :: ih) a

@[simp] theorem renL_nil (r : Nat → Nat) : renL r [] = [] := rfl
@[simp] theorem renL_cons (r : Nat → Nat) (x : AV) (xs : List AV) : renL r (x :: xs) = AV.ren r x :: renL r xs := rfl

/-- the inner recursor of lists is the plain one -/
theorem ren_inner (r : Nat → Nat) : ∀ cs : List AV, (@AV.rec_1 (fun _ => AV) (fun _ => List AV)
    .top (fun n => .num n) (fun x => .bool x) (fun v => .val v) (fun i o => .ptr (r i) o) (fun i o l c x => .sl (r i) o l c x) .nes (fun i => .mp (r i))
    (fun f _ _ ia ic => .fn f ia ic) (fun l => .yld (r l)) (fun t _ ih => .ifc t ih) (fun _ ih => .agg ih) (fun _ ih => .tup ih)
    [] (fun _ _ ix ixs => ix :: ixs) cs) = renL r cs
  | [] => rfl
  | x :: xs => by
    show AV.ren r x :: _ = AV.ren r x :: renL r xs
    congr 1
    exact ren_inner r xs

theorem ren_agg (r : Nat → Nat) (cs : List AV) : AV.ren r (.agg cs) = .agg (renL r cs) := congrArg AV.agg (ren_inner r cs)
theorem ren_tup (r : Nat → Nat) (cs : List AV) : AV.ren r (.tup cs) = .tup (renL r cs) := congrArg AV.tup (ren_inner r cs)
theorem ren_fn (r : Nat → Nat) (f : FuncId) (as cs : List AV) : AV.ren r (.fn f as cs) = .fn f (renL r as) (renL r cs) := by
  show AV.fn f _ _ = _
  congr 1
  · exact ren_inner r as
  · exact ren_inner r cs

theorem sameR_inner (r : Nat → Nat) (a : List AV) : @AV.rec_1 (fun _ => AV → Bool) (fun _ => List AV → Bool)
    (fun _ => false)
    (fun n b => match b with | .num m => beqI n m | _ => false)
    (fun x b => match b with | .bool y => @Bool.rec (fun _ => Bool) (!y) y x | _ => false)
    (fun v b => match b with | .val w => valSame v w | _ => false)
    (fun i o b => match b with | .ptr j p => Nat.beq (r i) j && Nat.beq o p | _ => false)
    (fun i o l c x b => match b with | .sl j p m d y => Nat.beq (r i) j && (Nat.beq o p && (Nat.beq l m && (Nat.beq c d && @Bool.rec (fun _ => Bool) (!y) y x))) | _ => false)
    (fun b => match b with | .nes => true | _ => false)
    (fun i b => match b with | .mp j => Nat.beq (r i) j | _ => false)
    (fun f _ _ ia ic b => match b with | .fn g b d => Nat.beq f g && (ia b && ic d) | _ => false)
    (fun l b => match b with | .yld m => Nat.beq (r l) m | _ => false)
    (fun t _ ih b => match b with | .ifc u w => Nat.beq t u && ih w | _ => false)
    (fun _ ih b => match b with | .agg cs => ih cs | _ => false)
    (fun _ ih b => match b with | .tup cs => ih cs | _ => false)
    isNilL
    (fun _ _ ix ixs bs => onCons bs fun y ys => ix y && ixs ys) a = sameRs r a := by
  induction a with
  | nil => rfl
  | cons x xs ih =>
    funext bs
    show onCons bs (fun y ys => AV.sameR r x y && _) = onCons bs (fun y ys => AV.sameR r x y && sameRs r xs ys)
    rw [← ih]

theorem beqI_eqR {a b : Int} (h : beqI a b = true) : a = b := by
  rw [beqI_eq] at h
  exact eq_of_beq h

mutual
theorem sameR_eq (r : Nat → Nat) : ∀ {a b : AV}, AV.sameR r a b = true → AV.ren r a = b
  | .top, b, h => by cases b <;> cases h
  | .num n, b, h => by cases b <;> first | cases h | exact congrArg AV.num (beqI_eqR h)
  | .bool x, b, h => by cases b <;> first | cases h | (rename_i y; cases x <;> cases y <;> first | rfl | cases h)
  | .val v, b, h => by cases b <;> first | cases h | exact congrArg AV.val (valSame_eq h)
  | .ptr i o, b, h => by
    cases b <;> try (cases h; done)
    rename_i j p
    have h : (Nat.beq (r i) j && Nat.beq o p) = true := h
    simp only [Bool.and_eq_true] at h
    show AV.ptr (r i) o = _
    rw [Nat.eq_of_beq_eq_true h.1, Nat.eq_of_beq_eq_true h.2]
  | .sl i o l c x, b, h => by
    cases b <;> try (cases h; done)
    rename_i j p m d y
    have h : (Nat.beq (r i) j && (Nat.beq o p && (Nat.beq l m && (Nat.beq c d && @Bool.rec (fun _ => Bool) (!y) y x)))) = true := h
    simp only [Bool.and_eq_true] at h
    show AV.sl (r i) o l c x = _
    have hx : x = y := by have := h.2.2.2.2; cases x <;> cases y <;> first | rfl | cases this
    rw [Nat.eq_of_beq_eq_true h.1, Nat.eq_of_beq_eq_true h.2.1, Nat.eq_of_beq_eq_true h.2.2.1, Nat.eq_of_beq_eq_true h.2.2.2.1, hx]
  | .nes, b, h => by cases b <;> first | rfl | cases h
  | .mp i, b, h => by
    cases b <;> try (cases h; done)
    exact congrArg AV.mp (Nat.eq_of_beq_eq_true h)
  | .fn f a c, b, h => by
    cases b <;> try (cases h; done)
    rename_i g b d
    have h : (Nat.beq f g && _) = true := h
    rw [Bool.and_eq_true] at h
    obtain ⟨h1, h2⟩ := h
    rw [Bool.and_eq_true] at h2
    obtain ⟨h2, h3⟩ := h2
    have h2' : sameRs r a b = true := by rw [← sameR_inner]; exact h2
    have h3' : sameRs r c d = true := by rw [← sameR_inner]; exact h3
    rw [ren_fn, Nat.eq_of_beq_eq_true h1, sameRs_eq r h2', sameRs_eq r h3']
  | .yld l, b, h => by
    cases b <;> try (cases h; done)
    exact congrArg AV.yld (Nat.eq_of_beq_eq_true h)
  | .ifc t v, b, h => by
    cases b <;> try (cases h; done)
    rename_i u w
    have h : (Nat.beq t u && AV.sameR r v w) = true := h
    rw [Bool.and_eq_true] at h
    show AV.ifc t (AV.ren r v) = _
    rw [Nat.eq_of_beq_eq_true h.1, sameR_eq r h.2]
  | .agg a, b, h => by
    cases b <;> try (cases h; done)
    rename_i cs
    have h' : sameRs r a cs = true := by rw [← sameR_inner]; exact h
    rw [ren_agg, sameRs_eq r h']
  | .tup a, b, h => by
    cases b <;> try (cases h; done)
    rename_i cs
    have h' : sameRs r a cs = true := by rw [← sameR_inner]; exact h
    rw [ren_tup, sameRs_eq r h']
theorem sameRs_eq (r : Nat → Nat) : ∀ {a b : List AV}, sameRs r a b = true → renL r a = b
  | [], b, h => by cases b <;> first | rfl | cases h
  | x :: xs, b, h => by
    cases b with
    | nil => cases h
    | cons y ys =>
      have h : (AV.sameR r x y && sameRs r xs ys) = true := h
      rw [Bool.and_eq_true] at h
      rw [renL_cons, sameR_eq r h.1, sameRs_eq r h.2]
end

/-- the numbers that a value names meet p -/
noncomputable def AV.refsOK (p : Nat → Bool) (a : AV) : Bool :=
  @AV.rec (fun _ => Bool) (fun _ => Bool) true (fun _ => true) (fun _ => true) (fun _ => true) (fun i _ => p i) (fun i _ _ _ _ => p i) true (fun i => p i)
    (fun _ _ _ ia ic => ia && ic) (fun l => p l) (fun _ _ ih => ih) (fun _ ih => ih) (fun _ ih => ih) true (fun _ _ ix ixs => ix && ixs) a
noncomputable def refsOKs (p : Nat → Bool) (a : List AV) : Bool := @List.rec AV (fun _ => Bool) true (fun x _ ih => AV.refsOK p x && ih) a
theorem refsOK_inner (p : Nat → Bool) : ∀ cs : List AV, (@AV.rec_1 (fun _ => Bool) (fun _ => Bool) true (fun _ => true) (fun _ => true) (fun _ => true) (fun i _ => p i) (fun i _ _ _ _ => p i) true (fun i => p i)
    (fun _ _ _ ia ic => ia && ic) (fun l => p l) (fun _ _ ih => ih) (fun _ ih => ih) (fun _ ih => ih) true (fun _ _ ix ixs => ix && ixs) cs) = refsOKs p cs
  | [] => rfl
  | x :: xs => by
    show (AV.refsOK p x && _) = (AV.refsOK p x && refsOKs p xs)
    congr 1
    exact refsOK_inner p xs

/-! values under a renaming: from the renamed to the canonical -/
mutual
theorem VR.unren {ρ ρc : Rho} {r : Nat → Nat} {p : Nat → Bool} (h : ∀ j y, p j = true → ρ (r j) = some y → ρc j = some y) : ∀ {a : AV} {v : Value}, AV.refsOK p a = true → VR ρ (AV.ren r a) v → VR ρc a v
  | .top, v, _, _ => .top v
  | .num n, _, _, hv => by cases hv; exact .num n
  | .bool x, _, _, hv => by cases hv; exact .bool x
  | .val x, _, _, hv => by cases hv; exact .val x
  | .ptr i o, _, hp, hv => by cases hv with | ptr hr => exact .ptr (h i _ hp hr)
  | .sl i o l c x, _, hp, hv => by cases hv with | sl hr => exact .sl (h i _ hp hr)
  | .nes, _, _, hv => by cases hv; exact .nes _ _
  | .mp i, _, hp, hv => by cases hv with | mp hr => exact .mp (h i _ hp hr)
  | .fn f as cs, _, hp, hv => by
    rw [ren_fn] at hv
    have hp : (_ && _) = true := hp
    rw [Bool.and_eq_true] at hp
    obtain ⟨h1, h2⟩ := hp
    cases hv with
    | fn g1 g2 => exact .fn (VRs.unren h (refsOK_inner p as ▸ h1) g1) (VRs.unren h (refsOK_inner p cs ▸ h2) g2)
  | .yld l, _, hp, hv => by cases hv with | yld hr => exact .yld (h l _ hp hr)
  | .ifc t a, _, hp, hv => by cases hv with | ifc g => exact .ifc (VR.unren h hp g)
  | .agg cs, _, hp, hv => by
    rw [ren_agg] at hv
    cases hv with
    | agg g => exact .agg (VRs.unren h (refsOK_inner p cs ▸ hp) g)
  | .tup cs, _, hp, hv => by
    rw [ren_tup] at hv
    cases hv with
    | tup g => exact .tup (VRs.unren h (refsOK_inner p cs ▸ hp) g)
theorem VRs.unren {ρ ρc : Rho} {r : Nat → Nat} {p : Nat → Bool} (h : ∀ j y, p j = true → ρ (r j) = some y → ρc j = some y) : ∀ {a : List AV} {v : List Value}, refsOKs p a = true → VRs ρ (renL r a) v → VRs ρc a v
  | [], _, _, hv => by cases hv; exact .nil
  | x :: xs, _, hp, hv => by
    have hp : (AV.refsOK p x && refsOKs p xs) = true := hp
    rw [Bool.and_eq_true] at hp
    cases hv with
    | cons g1 g2 => exact .cons (VR.unren h hp.1 g1) (VRs.unren h hp.2 g2)
end

/-! from the canonical to the renamed -/
mutual
theorem VR.reren {ρ ρc : Rho} {r : Nat → Nat} (h : ∀ j y, ρc j = some y → ρ (r j) = some y) : ∀ {a : AV} {v : Value}, VR ρc a v → VR ρ (AV.ren r a) v
  | .top, v, _ => .top v
  | .num n, _, hv => by cases hv; exact .num n
  | .bool x, _, hv => by cases hv; exact .bool x
  | .val x, _, hv => by cases hv; exact .val x
  | .ptr i o, _, hv => by cases hv with | ptr hr => exact .ptr (h i _ hr)
  | .sl i o l c x, _, hv => by cases hv with | sl hr => exact .sl (h i _ hr)
  | .nes, _, hv => by cases hv; exact .nes _ _
  | .mp i, _, hv => by cases hv with | mp hr => exact .mp (h i _ hr)
  | .fn f as cs, _, hv => by
    rw [ren_fn]
    cases hv with
    | fn g1 g2 => exact .fn (VRs.reren h g1) (VRs.reren h g2)
  | .yld l, _, hv => by cases hv with | yld hr => exact .yld (h l _ hr)
  | .ifc t a, _, hv => by cases hv with | ifc g => exact .ifc (VR.reren h g)
  | .agg cs, _, hv => by
    rw [ren_agg]
    cases hv with
    | agg g => exact .agg (VRs.reren h g)
  | .tup cs, _, hv => by
    rw [ren_tup]
    cases hv with
    | tup g => exact .tup (VRs.reren h g)
theorem VRs.reren {ρ ρc : Rho} {r : Nat → Nat} (h : ∀ j y, ρc j = some y → ρ (r j) = some y) : ∀ {a : List AV} {v : List Value}, VRs ρc a v → VRs ρ (renL r a) v
  | [], _, hv => by cases hv; exact .nil
  | x :: xs, _, hv => by
    cases hv with
    | cons g1 g2 => exact .cons (VR.reren h g1) (VRs.reren h g2)
end
end Ev
end

section
namespace Ev
open Go

/-! ### calls that are run by themselves, wherever their blocks lie -/

/-- what a call does, in numbers of its own: it looks at 'pre' alone, and turns 'post'; numbers from n on are new -/
structure ME where
  f : FuncId
  args : List AV
  n : Nat
  pre : List (Nat × AObj)
  v : AV
  n' : Nat
  post : List (Nat × Option AObj)

noncomputable def sameEs (r : Nat → Nat) (a b : List (Value × AV × Nat)) : Bool :=
  match a, b with
  | [], [] => true
  | x :: xs, y :: ys => valSame x.1 y.1 && AV.sameR r x.2.1 y.2.1 && Nat.beq x.2.2 y.2.2 && sameEs r xs ys
  | _, _ => false

noncomputable def AObj.sameR (r : Nat → Nat) (a b : AObj) : Bool :=
  match a with
  | .cells cs e x => match b with
    | .cells ds f y => Nat.beq e f && (x == y) && sameRs r cs ds
    | _ => false
  | .map es c => match b with
    | .map fs d => Nat.beq c d && sameEs r es fs
    | _ => false
  | .ro k cs => match b with
    | .ro l ds => Nat.beq k l && sameRs r cs ds
    | _ => false
  | _ => false

noncomputable def renEs (r : Nat → Nat) (a : List (Value × AV × Nat)) : List (Value × AV × Nat) :=
  match a with
  | [] => []
  | x :: xs => (x.1, AV.ren r x.2.1, x.2.2) :: renEs r xs

noncomputable def AObj.ren (r : Nat → Nat) (a : AObj) : AObj :=
  match a with
  | .cells cs e x => .cells (renL r cs) e x
  | .map es c => .map (renEs r es) c
  | .ro k cs => .ro k (renL r cs)
  | o => o

/-- the kinds that are renamed -/
noncomputable def AObj.plain (a : AObj) : Bool :=
  match a with
  | .cells .. => true
  | .map .. => true
  | .ro .. => true
  | _ => false

theorem sameEs_eq (r : Nat → Nat) : ∀ {a b : List (Value × AV × Nat)}, sameEs r a b = true → renEs r a = b
  | [], [], _ => rfl
  | [], _ :: _, h => by simp [sameEs] at h
  | _ :: _, [], h => by simp [sameEs] at h
  | x :: xs, y :: ys, h => by
    simp only [sameEs, Bool.and_eq_true] at h
    have h1 := valSame_eq h.1.1.1
    have h2 := sameR_eq r h.1.1.2
    have h3 := Nat.eq_of_beq_eq_true h.1.2
    obtain ⟨x1, x2, x3⟩ := x
    obtain ⟨y1, y2, y3⟩ := y
    simp only at h1 h2 h3
    show (x1, AV.ren r x2, x3) :: renEs r xs = _
    rw [sameEs_eq r h.2, h1, h2, h3]

theorem AObj.sameR_eq {r : Nat → Nat} {a b : AObj} (h : AObj.sameR r a b = true) : AObj.ren r a = b ∧ a.plain = true := by
  unfold AObj.sameR at h
  split at h
  · split at h
    · simp only [Bool.and_eq_true, beq_iff_eq] at h
      refine ⟨?_, rfl⟩
      show AObj.cells _ _ _ = _
      rw [sameRs_eq r h.2, Nat.eq_of_beq_eq_true h.1.1, h.1.2]
    · cases h
  · split at h
    · simp only [Bool.and_eq_true] at h
      refine ⟨?_, rfl⟩
      show AObj.map _ _ = _
      rw [sameEs_eq r h.2, Nat.eq_of_beq_eq_true h.1]
    · cases h
  · split at h
    · simp only [Bool.and_eq_true] at h
      refine ⟨?_, rfl⟩
      show AObj.ro _ _ = _
      rw [sameRs_eq r h.2, Nat.eq_of_beq_eq_true h.1]
    · cases h
  · cases h

noncomputable def refsEs (p : Nat → Bool) (a : List (Value × AV × Nat)) : Bool :=
  match a with
  | [] => true
  | x :: xs => AV.refsOK p x.2.1 && refsEs p xs

noncomputable def AObj.refsOK (p : Nat → Bool) (a : AObj) : Bool :=
  match a with
  | .cells cs _ _ => refsOKs p cs
  | .map es _ => refsEs p es
  | .ro _ cs => refsOKs p cs
  | _ => false

theorem MR.unren {ρ ρc : Rho} {r : Nat → Nat} {p : Nat → Bool} (h : ∀ j y, p j = true → ρ (r j) = some y → ρc j = some y) : ∀ {es : List (Value × AV × Nat)} {ms : List MapEntry}, refsEs p es = true → MR ρ (renEs r es) ms → MR ρc es ms
  | [], [], _, _ => trivial
  | [], _ :: _, _, hm => hm.elim
  | _ :: _, [], _, hm => hm.elim
  | e :: es, m :: ms, hp, hm => by
    simp only [refsEs, Bool.and_eq_true] at hp
    exact ⟨⟨hm.1.1, hm.1.2.1.unren h hp.1, hm.1.2.2⟩, MR.unren h hp.2 hm.2⟩

theorem MR.reren {ρ ρc : Rho} {r : Nat → Nat} (h : ∀ j y, ρc j = some y → ρ (r j) = some y) : ∀ {es : List (Value × AV × Nat)} {ms : List MapEntry}, MR ρc es ms → MR ρ (renEs r es) ms
  | [], [], _ => trivial
  | [], _ :: _, hm => hm.elim
  | _ :: _, [], hm => hm.elim
  | e :: es, m :: ms, hm => ⟨⟨hm.1.1, hm.1.2.1.reren h, hm.1.2.2⟩, MR.reren h hm.2⟩

theorem OR.unren {E : Env} {G : Good} {ρ ρc : Rho} {r : Nat → Nat} {p : Nat → Bool} (h : ∀ j y, p j = true → ρ (r j) = some y → ρc j = some y) {e : Nat} {o : AObj} {b : Obj} (hp : o.refsOK p = true) (ho : OR E G ρ e (o.ren r) b) : OR E G ρc e o b := by
  cases o with
  | cells cs el x => cases ho with | cells vs rest fr h1 h2 h3 h4 => exact .cells vs rest fr (h1.unren h hp) h2 h3 h4
  | map es c => cases ho with | map l h1 => exact .map l (h1.unren h hp)
  | ro k cs => cases ho with | ro vs el fr h1 hg => exact .ro vs el fr (h1.unren h hp) hg
  | _ => cases hp

theorem OR.reren {E : Env} {G : Good} {ρ ρc : Rho} {r : Nat → Nat} (h : ∀ j y, ρc j = some y → ρ (r j) = some y) {e : Nat} {o : AObj} {b : Obj} (hp : o.plain = true) (ho : OR E G ρc e o b) : OR E G ρ e (o.ren r) b := by
  cases o with
  | cells cs el x => cases ho with | cells vs rest fr h1 h2 h3 h4 => exact .cells vs rest fr (h1.reren h) h2 h3 h4
  | map es c => cases ho with | map l h1 => exact .map l (h1.reren h)
  | ro k cs => cases ho with | ro vs el fr h1 hg => exact .ro vs el fr (h1.reren h) hg
  | _ => cases hp

noncomputable def putAll (h : Tr AObj) : List (Nat × AObj) → Tr AObj
  | [] => h
  | p :: ps => putAll (h.put bits p.1 (some p.2)) ps

noncomputable def ME.st (me : ME) : St := ⟨putAll .nil me.pre, me.n, none⟩

theorem putAll_get {ps : List (Nat × AObj)} : ∀ {h : Tr AObj} {i : Nat} {o : AObj}, (putAll h ps).get i = some o → (i, o) ∈ ps ∨ h.get i = some o := by
  induction ps with
  | nil => intro h i o hg; exact .inr hg
  | cons p ps ih =>
    intro h i o hg
    rcases ih hg with h1 | h1
    · exact .inl (List.mem_cons_of_mem _ h1)
    · rcases Tr.put_some h1 with ⟨h2, h3⟩ | ⟨_, h2⟩
      · injection h3 with h3
        refine .inl ?_
        obtain ⟨p1, p2⟩ := p
        simp only at h2 h3
        subst h2; subst h3
        exact List.mem_cons_self ..
      · exact .inr h2

theorem ME.st_get {me : ME} {i : Nat} {o : AObj} (h : me.st.h.get i = some o) : (i, o) ∈ me.pre := by
  rcases putAll_get (h : (putAll .nil me.pre).get i = some o) with h1 | h1
  · exact h1
  · cases h1

/-- the renaming, new numbers shifted -/
noncomputable def shift (σ : Tr Nat) (n m : Nat) (j : Nat) : Nat :=
  @Bool.rec (fun _ => Nat) (match σ.get j with | some i => i | none => j) (Nat.add m (Nat.sub j n)) (Nat.ble n j)

theorem shift_new {σ : Tr Nat} {n m j : Nat} (h : n ≤ j) : shift σ n m j = m + (j - n) := by
  unfold shift
  rw [Nat.ble_eq_true_of_le h]
  rfl
theorem shift_old {σ : Tr Nat} {n m j : Nat} (h : j < n) : shift σ n m j = match σ.get j with | some i => i | none => j := by
  unfold shift
  cases hb : Nat.ble n j with
  | false => rfl
  | true => have := Nat.le_of_ble_eq_true hb; omega

/-- puts of renamed objects -/
noncomputable def putR (r : Nat → Nat) (h : Tr AObj) : List (Nat × Option AObj) → Tr AObj
  | [] => h
  | p :: ps => putR r (h.put bits (r p.1) (match p.2 with | some o => some (o.ren r) | none => none)) ps

noncomputable def renO (r : Nat → Nat) (o : Option AObj) : Option AObj := match o with | some o => some (o.ren r) | none => none

theorem Tr.get_one_lt {α : Type} (k : Nat) : ∀ (n : Nat) (x : Option α), n + 1 < 2 ^ k → (Tr.one k n x).get n = x := by
  induction k with
  | zero => intro n x h; omega
  | succ k ih =>
    intro n x h
    cases n with
    | zero => rfl
    | succ n =>
      rw [Tr.one_succ]
      have : 2 ^ (k + 1) = 2 * 2 ^ k := by rw [Nat.pow_succ]; omega
      split <;> rename_i h1 <;> rw [Tr.get_succ] <;> simp [h1] <;> apply ih <;> omega

theorem Tr.get_put_lt {α : Type} (k : Nat) (t : Tr α) : ∀ (n : Nat) (x : Option α), n + 1 < 2 ^ k → (t.put k n x).get n = x := by
  induction t with
  | nil => intro n x h; rw [Tr.put_nil]; exact Tr.get_one_lt k n x h
  | node v l r ihl ihr =>
    intro n x h
    cases n with
    | zero => rfl
    | succ n =>
      rw [Tr.put_succ]
      split <;> rename_i h1 <;> rw [Tr.get_succ] <;> simp [h1] <;> first | (apply ihl; omega) | (apply ihr; omega)

theorem putR_get {r : Nat → Nat} {ps : List (Nat × Option AObj)} : ∀ {h : Tr AObj} {i : Nat}, (∀ p ∈ ps, r p.1 + 1 < 2 ^ bits) →
    (∃ p ∈ ps, r p.1 = i ∧ (putR r h ps).get i = renO r p.2) ∨ ((∀ p ∈ ps, r p.1 ≠ i) ∧ (putR r h ps).get i = h.get i) := by
  induction ps with
  | nil => intro h i _; exact .inr ⟨(fun _ h => by cases h), rfl⟩
  | cons p ps ih =>
    intro h i hb
    rcases ih (h := h.put bits (r p.1) (renO r p.2)) (i := i) (fun q hq => hb q (List.mem_cons_of_mem _ hq)) with ⟨x, h1, h2, h3⟩ | ⟨h1, h2⟩
    · exact .inl ⟨x, List.mem_cons_of_mem _ h1, h2, h3⟩
    · by_cases hi : r p.1 = i
      · refine .inl ⟨p, List.mem_cons_self .., hi, ?_⟩
        show (putR r (h.put bits (r p.1) (renO r p.2)) ps).get i = _
        rw [h2, hi]
        exact Tr.get_put_lt _ _ _ _ (hi ▸ hb p (List.mem_cons_self ..))
      · refine .inr ⟨fun q hq => ?_, ?_⟩
        · rcases List.mem_cons.1 hq with rfl | hq
          · exact hi
          · exact h1 q hq
        · show (putR r (h.put bits (r p.1) (renO r p.2)) ps).get i = h.get i
          rw [h2]
          exact Tr.get_put_ne _ _ _ _ _ (Ne.symm hi)

/-- a number of the call's own that may be named before it: a variable, or one that the renaming tells -/
noncomputable def known' (g : Nat) (σ : Tr Nat) (j : Nat) : Bool := Nat.blt j g || (σ.get j).isSome

/-! the check of the run -/
noncomputable def okPost (me : ME) (s' : St) (p : Nat × Option AObj) : Bool :=
  (Nat.blt p.1 me.n' && (Nat.ble me.n p.1 || (me.st.h.get p.1).isSome)) &&
  match p.2 with
  | some o => match s'.h.get p.1 with
    | some o' => AObj.sameR (fun i => i) o o'
    | none => false
  | none => Nat.ble me.n p.1 || (s'.h.get p.1).isNone

noncomputable def okPre (me : ME) (s' : St) (p : Nat × AObj) : Bool :=
  Nat.blt p.1 me.n && ((me.post.any fun q => Nat.beq q.1 p.1) || match s'.h.get p.1 with
    | some o' => AObj.sameR (fun i => i) p.2 o'
    | none => false)

noncomputable def ME.okOut (me : ME) (r : Out) : Bool :=
  match r with
  | .val v s' => AV.sameR (fun i => i) me.v v && Nat.beq me.n' s'.n && me.post.all (okPost me s') && me.pre.all (okPre me s')
  | _ => false

/-- the run gives what is said -/
noncomputable def ME.ok (E : Env) (k : Nat) (me : ME) : Bool := me.okOut (ev E k (.call me.f me.args) me.st)

mutual
theorem ren_id : ∀ a : AV, AV.ren (fun i => i) a = a
  | .top => rfl
  | .num _ => rfl
  | .bool _ => rfl
  | .val _ => rfl
  | .ptr _ _ => rfl
  | .sl .. => rfl
  | .nes => rfl
  | .mp _ => rfl
  | .fn f a c => by rw [ren_fn, renL_id a, renL_id c]
  | .yld _ => rfl
  | .ifc t a => by show AV.ifc t (AV.ren _ a) = _; rw [ren_id a]
  | .agg cs => by rw [ren_agg, renL_id cs]
  | .tup cs => by rw [ren_tup, renL_id cs]
theorem renL_id : ∀ a : List AV, renL (fun i => i) a = a
  | [] => rfl
  | x :: xs => by rw [renL_cons, ren_id x, renL_id xs]
end

theorem renEs_id : ∀ es : List (Value × AV × Nat), renEs (fun i => i) es = es
  | [] => rfl
  | e :: es => by show (_, _, _) :: _ = _; rw [ren_id, renEs_id es]

theorem AObj.ren_id (o : AObj) : o.ren (fun i => i) = o := by
  cases o <;> try rfl
  · show AObj.cells _ _ _ = _; rw [renL_id]
  · show AObj.map _ _ = _; rw [renEs_id]
  · show AObj.ro _ _ = _; rw [renL_id]

theorem sameI {o o' : AObj} (h : AObj.sameR (fun i => i) o o' = true) : o = o' ∧ o.plain = true := by
  obtain ⟨h1, h2⟩ := AObj.sameR_eq h
  rw [AObj.ren_id] at h1
  exact ⟨h1, h2⟩

/-! the guess of the renaming -/
abbrev GT := Tr Nat
noncomputable def gput (r : GT) (i j : Nat) : GT := r.put bits i (some j)

noncomputable def gV (a : AV) : AV → GT → GT :=
  @AV.rec (fun _ => AV → GT → GT) (fun _ => List AV → GT → GT)
    (fun _ r => r) (fun _ _ r => r) (fun _ _ r => r) (fun _ _ r => r)
    (fun i _ b r => match b with | .ptr j _ => gput r i j | _ => r)
    (fun i _ _ _ _ b r => match b with | .sl j _ _ _ _ => gput r i j | _ => r)
    (fun _ r => r)
    (fun i b r => match b with | .mp j => gput r i j | _ => r)
    (fun _ _ _ ia ic b r => match b with | .fn _ x y => ic y (ia x r) | _ => r)
    (fun l b r => match b with | .yld m => gput r l m | _ => r)
    (fun _ _ ih b r => match b with | .ifc _ w => ih w r | _ => r)
    (fun _ ih b r => match b with | .agg cs => ih cs r | _ => r)
    (fun _ ih b r => match b with | .tup cs => ih cs r | _ => r)
    (fun _ r => r)
    (fun _ _ ix ixs bs r => @List.casesOn AV (fun _ => GT) bs r (fun y ys => ixs ys (ix y r))) a
noncomputable def gL (a : List AV) : List AV → GT → GT :=
  @List.rec AV (fun _ => List AV → GT → GT) (fun _ r => r) (fun x _ ih bs r => @List.casesOn AV (fun _ => GT) bs r (fun y ys => ih ys (gV x y r))) a

noncomputable def gEs (a b : List (Value × AV × Nat)) (r : GT) : GT :=
  match a with
  | [] => r
  | x :: xs => match b with
    | [] => r
    | y :: ys => gEs xs ys (gV x.2.1 y.2.1 r)

noncomputable def gO (a b : AObj) (r : GT) : GT :=
  match a with
  | .cells cs _ _ => match b with
    | .cells ds _ _ => gL cs ds r
    | _ => r
  | .map es _ => match b with
    | .map fs _ => gEs es fs r
    | _ => r
  | .ro _ cs => match b with
    | .ro _ ds => gL cs ds r
    | _ => r
  | _ => r

noncomputable def gPre (g : Nat) (s : St) : List (Nat × AObj) → GT → GT
  | [], r => r
  | p :: ps, r => match s.h.get (match r.get p.1 with | some i => i | none => p.1) with
    | some o => gPre g s ps (gO p.2 o r)
    | none => r

noncomputable def ME.guess (me : ME) (args : List AV) (s : St) : GT := gPre 0 s me.pre (gL me.args args .nil)

noncomputable def nodupN : List Nat → Bool
  | [] => true
  | x :: xs => !(xs.any fun y => Nat.beq x y) && nodupN xs

noncomputable def bears (g : Nat) (σ : Tr Nat) (n : Nat) (s : St) (p : Nat × AObj) : Bool :=
  known' g σ p.1 && (p.2.refsOK (known' g σ) && match s.h.get (shift σ n s.n p.1) with
  | some o => AObj.sameR (shift σ n s.n) p.2 o
  | none => false)

/-- g: the number of variables; a variable keeps its number -/
noncomputable def globsOK (g : Nat) (σ : Tr Nat) : Bool := (List.range g).all fun j => match σ.get j with | some i => Nat.beq i j | none => true

noncomputable def ME.fits (g : Nat) (me : ME) (args : List AV) (s : St) (σ : Tr Nat) : Bool :=
  refsOKs (known' g σ) me.args && sameRs (shift σ me.n s.n) me.args args && me.pre.all (bears g σ me.n s) && nodupN (me.pre.map fun p => shift σ me.n s.n p.1) && globsOK g σ && Nat.ble g me.n &&
    Nat.blt (Nat.add s.n me.n') 1000000000 && (me.post.all fun p => match p.2 with | some o => o.plain | none => true) && Nat.ble me.n me.n'

noncomputable def ME.after (me : ME) (s : St) (σ : Tr Nat) : St := ⟨putR (shift σ me.n s.n) s.h me.post, s.n + (me.n' - me.n), s.u⟩

noncomputable def ME.use (g : Nat) (me : ME) (args : List AV) (s : St) (σ : Tr Nat) : Option (AV × St) :=
  match sameRs (shift σ me.n s.n) me.args args with
  | true => match me.fits g args s σ with
    | true => some (me.v.ren (shift σ me.n s.n), me.after s σ)
    | false => none
  | false => none

/-- the calls with a number, one after the other -/
noncomputable def memoL (g : Nat) (args : List AV) (s : St) : List ME → Option (AV × St)
  | [] => none
  | me :: ms => match me.use g args s (me.guess args s) with
    | some r => some r
    | none => memoL g args s ms
end Ev
end

section
namespace Ev
open Go

theorem OR.env {E E' : Env} (hty : E.ty = E'.ty) (hgh : E.gh = E'.gh) {G : Good} {ρ : Rho} {e : Nat} {o : AObj} {b : Obj} (h : OR E G ρ e o b) : OR E' G ρ e o b := by
  cases h with
  | cells vs rest fr h hf hx he => exact .cells vs rest fr h hf hx (fun ti ht => he ti (hty ▸ ht))
  | map l h => exact .map l h
  | siter s p => exact .siter s p
  | miter0 a b c => exact .miter0 a b c
  | miter a b c h => exact .miter a b c h
  | loop lp h => exact .loop lp h
  | deferred l h => exact .deferred l h
  | ro vs el fr h hg => exact .ro vs el fr h (hgh ▸ hg)

theorem Rel.env {E E' : Env} (hP : E.P = E'.P) (hty : E.ty = E'.ty) (hgh : E.gh = E'.gh) {D : Array Oper → Bool} {ρ : Rho} {st : St} {h : Array Obj} (r : Rel E (GE D E) ρ st h) : Rel E' (GE D E') ρ st h := by
  have hG : GE D E = GE D E' := by unfold GE; rw [hP]
  refine ⟨fun i o b e h1 h2 => ?_, r.inj, r.fresh, r.below, fun g hg => r.glob g (hP ▸ hg)⟩
  obtain ⟨ob, h3, h4⟩ := r.obj i o b e h1 h2
  exact ⟨ob, h3, hG ▸ h4.env hty hgh⟩

theorem Mv.env {E E' : Env} (hP : E.P = E'.P) (hty : E.ty = E'.ty) (hgh : E.gh = E'.gh) {D : Array Oper → Bool} {ρ ρ' : Rho} {st st' : St} {w w' : World} (h : Mv E (GE D E) ρ st w ρ' st' w') : Mv E' (GE D E') ρ st w ρ' st' w' :=
  ⟨h.rel.env hP hty hgh, h.ext, h.same, h.u⟩

/-- what a call's word says of the program -/
def CallF (D : Array Oper → Bool) (E : Env) (me : ME) : Prop :=
  ∀ (σ : Tr Nat) (ρ : Rho) (st : St) (w : World) args xs, Rel E (GE D E) ρ st w.heap → VRs ρ args xs → me.fits E.P.globals.size args st σ = true →
    Calls E.P me.f ⟨xs⟩ w fun e w' => ∃ x ρ', e = .returned x ∧ VR ρ' (me.v.ren (shift σ me.n st.n)) x ∧ Mv E (GE D E) ρ st w ρ' (me.after st σ) w'

theorem CallF.env {E E' : Env} (hP : E.P = E'.P) (hty : E.ty = E'.ty) (hgh : E.gh = E'.gh) {D : Array Oper → Bool} {me : ME} (h : CallF D E me) : CallF D E' me := by
  intro σ ρ st w args xs hR hxs hf
  rw [← hP]
  exact (h σ ρ st w args xs (hR.env hP.symm hty.symm hgh.symm) hxs (by rw [hP]; exact hf)).mono fun e w' ⟨x, ρ', h1, h2, h3⟩ => ⟨x, ρ', h1, h2, h3.env hP hty hgh⟩

theorem nodupN_inj {α : Type} {r : α → Nat} : ∀ {l : List α}, nodupN (l.map r) = true → ∀ {x y : α}, x ∈ l → y ∈ l → r x = r y → x = y
  | [], _, _, _, h, _, _ => by cases h
  | a :: as, hn, x, y, hx, hy, hr => by
    simp only [List.map_cons, nodupN, Bool.and_eq_true, Bool.not_eq_true', List.any_eq_false] at hn
    rcases List.mem_cons.1 hx with hx | hx <;> rcases List.mem_cons.1 hy with hy | hy
    · rw [hx, hy]
    · exact absurd (by rw [← hr, hx]; exact Nat.beq_refl _) (hn.1 (r y) (List.mem_map_of_mem hy))
    · exact absurd (by rw [hr, hy]; exact Nat.beq_refl _) (hn.1 (r x) (List.mem_map_of_mem hx))
    · exact nodupN_inj hn.2 hx hy hr

/-- THE FRAME, UNDER A RENAMING -/
theorem callF_of_run {E : Env} {k : Nat} {me : ME} (hrec : RecOK planOK E (ev E k)) (h : me.ok E k = true) : CallF planOK E me := by
  intro σ ρ st w args xs hR hxs hf
  simp only [ME.fits, Bool.and_eq_true, List.all_eq_true] at hf
  obtain ⟨⟨⟨⟨⟨⟨⟨⟨hf1, hf2⟩, hf3⟩, hf4⟩, hf5⟩, hf6⟩, hf7⟩, hf8⟩, hf9⟩ := hf
  have hf6 := Nat.le_of_ble_eq_true hf6
  have hf9 := Nat.le_of_ble_eq_true hf9
  have hlim : st.n + me.n' < 1000000000 := by simpa [Nat.blt_eq] using hf7
  let g := E.P.globals.size
  let r := shift σ me.n st.n
  let ρc : Rho := fun j => if j < me.n ∧ known' g σ j = true then ρ (r j) else none
  have hρ : ∀ j y, ρc j = some y → j < me.n ∧ known' g σ j = true ∧ ρ (r j) = some y := by
    intro j y hj
    by_cases hc : j < me.n ∧ known' g σ j = true
    · exact ⟨hc.1, hc.2, by simpa [ρc, hc] using hj⟩
    · simp [ρc, hc] at hj
  have hρi : ∀ j, j < me.n → known' g σ j = true → ρc j = ρ (r j) := fun j h1 h2 => by simp [ρc, h1, h2]
  have hun : ∀ j y, known' g σ j = true → ρ (r j) = some y → ρc j = some y := by
    intro j y hk hy
    rcases Nat.lt_or_ge j me.n with hj | hj
    · rw [hρi j hj hk]; exact hy
    · have : r j = st.n + (j - me.n) := shift_new hj
      rw [this, (hR.fresh (st.n + (j - me.n)) (by omega)).1] at hy
      cases hy
  have hglob : ∀ j, j < g → r j = j := by
    intro j hj
    have h1 : r j = match σ.get j with | some i => i | none => j := shift_old (by omega)
    rw [h1]
    have := List.all_eq_true.1 hf5 j (by simpa using hj)
    split
    · rename_i i hi
      rw [hi] at this
      exact Nat.eq_of_beq_eq_true this
    · rfl
  -- what lies at the blocks that the call looks at
  have hpre : ∀ j o, me.st.h.get j = some o → known' g σ j = true ∧ o.refsOK (known' g σ) = true ∧ o.plain = true ∧ st.h.get (r j) = some (o.ren r) := by
    intro j o hj
    have := hf3 _ (ME.st_get hj)
    simp only [bears, Bool.and_eq_true] at this
    obtain ⟨h1, h2, h3⟩ := this
    split at h3
    · rename_i o' ho'
      obtain ⟨h4, h5⟩ := AObj.sameR_eq h3
      exact ⟨h1, h2, h5, by rw [show st.h.get (r j) = some o' from ho', h4]⟩
    · cases h3
  have hc0 : ∀ j o, me.st.h.get j = some o → live st (r j) := fun j o hj => ⟨_, (hpre j o hj).2.2.2⟩
  have hRlt : ∀ i, live st i → i < st.n := by
    rintro i ⟨o, ho⟩
    rcases Nat.lt_or_ge i st.n with h | h
    · exact h
    · rw [(hR.fresh i h).2] at ho; cases ho
  have hinj : ∀ j k o o', me.st.h.get j = some o → me.st.h.get k = some o' → r j = r k → j = k := by
    intro j k o o' hj hk hr
    have h1 := nodupN_inj hf4 (ME.st_get hj) (ME.st_get hk) hr
    exact congrArg Prod.fst h1
  have hsub : Rel E (GE planOK E) ρc me.st w.heap := by
    refine ⟨?_, ?_, ?_, ?_, ?_⟩
    · intro j o b e hj hr
      obtain ⟨h1, h2, h3, h4⟩ := hpre j o hj
      obtain ⟨_, _, h5⟩ := hρ j _ hr
      obtain ⟨ob, h6, h7⟩ := hR.obj _ _ _ _ h4 h5
      exact ⟨ob, h6, h7.unren hun h2⟩
    · intro j k b e e' ⟨o, hj⟩ ⟨o', hk⟩ h1 h2
      exact hinj j k o o' hj hk (hR.inj _ _ b e e' (hc0 j o hj) (hc0 k o' hk) (hρ j _ h1).2.2 (hρ k _ h2).2.2)
    · intro j hj
      have hj' : me.n ≤ j := hj
      refine ⟨?_, ?_⟩
      · cases hx : ρc j with
        | none => rfl
        | some y => have := (hρ j y hx).1; omega
      · cases hx : me.st.h.get j with
        | none => rfl
        | some o =>
          have h0 := hRlt _ (hc0 j o hx)
          have : r j = st.n + (j - me.n) := shift_new hj'
          omega
    · intro j b e hj; exact hR.below _ b e (hρ j _ hj).2.2
    · intro j hj
      have hk : known' g σ j = true := by
        have : Nat.blt j g = true := by rw [Nat.blt_eq]; exact hj
        simp [known', this]
      rw [hρi j (by omega) hk, hglob j hj]
      exact hR.glob j hj
  have hargs : VRs ρc me.args xs := by
    have he := sameRs_eq _ hf2
    rw [← he] at hxs
    exact hxs.unren hun hf1
  have hc := hrec.call me.f me.args me.st ρc w xs hsub hargs
  unfold ME.ok at h
  cases hout : ev E k (.call me.f me.args) me.st with
  | val v s' =>
    rw [hout] at hc h
    simp only [ME.okOut, Bool.and_eq_true, List.all_eq_true] at h
    obtain ⟨⟨⟨h1, h2⟩, hpost⟩, hprek⟩ := h
    have hv := sameR_eq _ h1
    rw [ren_id] at hv
    subst hv
    have hn' : me.n' = s'.n := Nat.eq_of_beq_eq_true h2
    refine Calls.mono hc ?_
    rintro e w' ⟨x, ρc', he, hv, hm, hu⟩
    have hmn : me.n ≤ s'.n := hm.ext.n
    let ρ' : Rho := fun i => if i < st.n then ρ i else ρc' (me.n + (i - st.n))
    have hρ'o : ∀ i, i < st.n → ρ' i = ρ i := fun i hi => by simp [ρ', hi]
    have hρ'n : ∀ i, st.n ≤ i → ρ' i = ρc' (me.n + (i - st.n)) := fun i hi => by
      have : ¬ i < st.n := by omega
      simp [ρ', this]
    have hle : Le ρ ρ' := by
      intro i y hy
      have : i < st.n := by
        rcases Nat.lt_or_ge i st.n with h | h
        · exact h
        · rw [(hR.fresh i h).1] at hy; cases hy
      rw [hρ'o i this]; exact hy
    have hold : ∀ j y, j < me.n → ρc' j = some y → ρc j = some y := by
      intro j y hj hy
      cases hx : ρc j with
      | none => rw [hm.ext.old j hj hx] at hy; cases hy
      | some z => rw [hm.ext.mono j z hx] at hy; exact hy
    have hrr : ∀ j y, ρc' j = some y → ρ' (r j) = some y := by
      intro j y hy
      rcases Nat.lt_or_ge j me.n with hj | hj
      · exact hle _ _ (hρ j y (hold j y hj hy)).2.2
      · have : r j = st.n + (j - me.n) := shift_new hj
        rw [this, hρ'n _ (by omega)]
        have e : me.n + (st.n + (j - me.n) - st.n) = j := by omega
        rw [e]; exact hy
    refine ⟨x, ρ', he, hv.reren hrr, ?_⟩
    -- the numbers of the puts
    have hkey : ∀ p ∈ me.post, p.1 < me.n' ∧ (me.n ≤ p.1 ∨ ∃ o, me.st.h.get p.1 = some o) := by
      intro p hp
      have := hpost p hp
      simp only [okPost, Bool.and_eq_true, Bool.or_eq_true, Nat.blt_eq] at this
      refine ⟨this.1.1, ?_⟩
      rcases this.1.2 with h3 | h3
      · exact .inl (Nat.le_of_ble_eq_true h3)
      · exact .inr (Option.isSome_iff_exists.1 h3)
    have hlt0 : ∀ j o, me.st.h.get j = some o → j < me.n := by
      intro j o hj
      have := hprek _ (ME.st_get hj)
      simp only [okPre, Bool.and_eq_true, Nat.blt_eq] at this
      exact this.1
    -- what a put bears
    have hval : ∀ p ∈ me.post, ∀ o, p.2 = some o → s'.h.get p.1 = some o ∧ o.plain = true := by
      intro p hp o ho
      have := hpost p hp
      simp only [okPost, Bool.and_eq_true] at this
      have h3 := this.2
      rw [ho] at h3
      cases hs : s'.h.get p.1 with
      | none => simp [hs] at h3
      | some o2 =>
        simp only [hs] at h3
        obtain ⟨h6, h7⟩ := sameI h3
        rw [h6]
        exact ⟨rfl, h6 ▸ h7⟩
    have hplim : ∀ p ∈ me.post, r p.1 + 1 < 2 ^ bits := by
      intro p hp
      have hb : (1000000000 : Nat) + 2 < 2 ^ bits := by decide
      obtain ⟨h4, h3⟩ := hkey p hp
      rcases h3 with h3 | ⟨o, h3⟩
      · have h5 : r p.1 = st.n + (p.1 - me.n) := shift_new h3
        omega
      · have := hRlt _ (hc0 _ _ h3)
        omega
    -- the new state: a block of the call's own, or one that it does not look at
    have hget : ∀ i o, (me.after st σ).h.get i = some o → (∃ j oc, i = r j ∧ o = oc.ren r ∧ oc.plain = true ∧ s'.h.get j = some oc ∧ (me.n ≤ j ∨ ∃ o, me.st.h.get j = some o)) ∨ (i < st.n ∧ st.h.get i = some o ∧ ∀ j o', me.st.h.get j = some o' → r j ≠ i) := by
      intro i o hg
      rcases putR_get (h := st.h) (i := i) hplim with ⟨p, hp, h1, h2⟩ | ⟨h1, h2⟩
      · have hx : renO r p.2 = some o := h2.symm.trans hg
        cases hp2 : p.2 with
        | none => rw [hp2] at hx; cases hx
        | some oc =>
          rw [hp2] at hx
          injection hx with hx
          obtain ⟨h3, h4⟩ := hval p hp oc hp2
          exact .inl ⟨p.1, oc, h1.symm, hx.symm, h4, h3, (hkey p hp).2⟩
      · have hg' : st.h.get i = some o := h2.symm.trans hg
        have hi : i < st.n := hRlt i ⟨o, hg'⟩
        by_cases hex : ∃ j o', me.st.h.get j = some o' ∧ r j = i
        · obtain ⟨j, o', h3, h4⟩ := hex
          left
          have h5 := hprek _ (ME.st_get h3)
          simp only [okPre, Bool.and_eq_true, Bool.or_eq_true] at h5
          obtain ⟨h50, h5⟩ := h5
          rcases h5 with h5 | h5
          · obtain ⟨q, hq, hqi⟩ := List.any_eq_true.1 h5
            exact absurd (by rw [Nat.eq_of_beq_eq_true hqi]; exact h4) (h1 q hq)
          · cases hs : s'.h.get j with
            | none => simp [hs] at h5
            | some o2 =>
              simp only [hs] at h5
              obtain ⟨h6, h7⟩ := sameI h5
              have h8 := (hpre j o' h3).2.2.2
              rw [h4, hg'] at h8
              injection h8 with h8
              exact ⟨j, o', h4.symm, h8, h7, h6 ▸ hs, .inr ⟨o', h3⟩⟩
        · exact .inr ⟨hi, hg', fun j o' h3 h4 => hex ⟨j, o', h3, h4⟩⟩
    have hcan : ∀ j y, (me.n ≤ j ∨ ∃ o, me.st.h.get j = some o) → ρ' (r j) = some y → ρc' j = some y := by
      intro j y hj hy
      rcases hj with hj | ⟨o, hj⟩
      · have h5 : r j = st.n + (j - me.n) := shift_new hj
        rw [h5, hρ'n _ (by omega)] at hy
        have e : me.n + (st.n + (j - me.n) - st.n) = j := by omega
        rw [e] at hy; exact hy
      · rw [hρ'o _ (hRlt _ (hc0 _ _ hj))] at hy
        exact hm.ext.mono j y (by rw [hρi j (hlt0 j o hj) (hpre j o hj).1]; exact hy)
    have hkeep : ∀ i b e o, st.h.get i = some o → (∀ j o', me.st.h.get j = some o' → r j ≠ i) → ρ i = some (b, e) → w'.heap[b]? = w.heap[b]? := by
      intro i b e o ho hno hr
      refine hm.ext.keep b (hR.below i b e hr) ?_
      intro j e' ⟨o', hj⟩ hrj
      exact hno j o' hj (hR.inj _ i b e' e (hc0 j o' hj) ⟨o, ho⟩ (hρ j _ hrj).2.2 hr)
    have hmix : ∀ j i b e e' o, ρc' j = some (b, e) → live s' j → i < st.n → st.h.get i = some o → (∀ j o', me.st.h.get j = some o' → r j ≠ i) → ρ i = some (b, e') → False := by
      intro j i b e e' o h1 hl hi ho hno hr
      rcases hm.ext.dom j b e hl h1 with h3 | ⟨k, e2, ⟨o2, h3⟩, h4⟩
      · have := hR.below i b e' hr; omega
      · exact hno k o2 h3 (hR.inj _ i b e2 e' (hc0 k o2 h3) ⟨o, ho⟩ (hρ k _ h4).2.2 hr)
    have han : (me.after st σ).n = st.n + (s'.n - me.n) := by show st.n + (me.n' - me.n) = _; rw [hn']
    refine ⟨⟨?_, ?_, ?_, ?_, ?_⟩, ⟨hle, ?_, ?_, ?_, hm.ext.size, ?_, ?_⟩, hm.same, rfl⟩
    · intro i o b e hg hr
      rcases hget i o hg with ⟨j, oc, rfl, rfl, h2, h3, h4⟩ | ⟨h1, h2, h3⟩
      · obtain ⟨ob, h5, h6⟩ := hm.rel.obj j oc b e h3 (hcan j _ h4 hr)
        exact ⟨ob, h5, h6.reren hrr h2⟩
      · have hr0 : ρ i = some (b, e) := by rw [← hρ'o i h1]; exact hr
        obtain ⟨ob, h4, h5⟩ := hR.obj i o b e h2 hr0
        exact ⟨ob, by rw [hkeep i b e o h2 h3 hr0]; exact h4, h5.mono hle⟩
    · intro i k b e e' ⟨o, hi⟩ ⟨o', hk⟩ h1 h2
      rcases hget i o hi with ⟨j, oc, rfl, _, _, gi, gi4⟩ | ⟨gi, gi2, gi3⟩ <;> rcases hget k o' hk with ⟨j', oc', rfl, _, _, gk, gk4⟩ | ⟨gk, gk2, gk3⟩
      · rw [hm.rel.inj j j' b e e' ⟨oc, gi⟩ ⟨oc', gk⟩ (hcan j _ gi4 h1) (hcan j' _ gk4 h2)]
      · exact (hmix j k b e e' o' (hcan j _ gi4 h1) ⟨oc, gi⟩ gk gk2 gk3 (by rw [← hρ'o k gk]; exact h2)).elim
      · exact (hmix j' i b e' e o (hcan j' _ gk4 h2) ⟨oc', gk⟩ gi gi2 gi3 (by rw [← hρ'o i gi]; exact h1)).elim
      · exact hR.inj i k b e e' ⟨o, gi2⟩ ⟨o', gk2⟩ (by rw [← hρ'o i gi]; exact h1) (by rw [← hρ'o k gk]; exact h2)
    · intro i hi
      rw [han] at hi
      have hsi : st.n ≤ i := by omega
      refine ⟨?_, ?_⟩
      · rw [hρ'n i hsi]
        exact (hm.rel.fresh _ (by omega)).1
      · cases hg : (me.after st σ).h.get i with
        | none => rfl
        | some o =>
          rcases hget i o hg with ⟨j, oc, h1, _, _, h3, h4⟩ | ⟨h1, _⟩
          · have hj : j < s'.n := by
              rcases Nat.lt_or_ge j s'.n with h | h
              · exact h
              · rw [(hm.rel.fresh j h).2] at h3; cases h3
            rcases h4 with h4 | ⟨o2, h4⟩
            · have h5 : r j = st.n + (j - me.n) := shift_new h4
              omega
            · have := hRlt _ (hc0 _ _ h4)
              omega
          · omega
    · intro i b e hr
      rcases Nat.lt_or_ge i st.n with hi | hi
      · exact Nat.lt_of_lt_of_le (hR.below i b e (by rw [← hρ'o i hi]; exact hr)) hm.ext.size
      · exact hm.rel.below _ b e (by rw [← hρ'n i hi]; exact hr)
    · intro j hj
      have h0 := hR.glob j hj
      exact hle _ _ h0
    · intro i hi hr; rw [hρ'o i hi]; exact hr
    · intro i hi hr
      rcases putR_get (h := st.h) (i := i) hplim with ⟨p, hp, h1, h2⟩ | ⟨h1, h2⟩
      · have h3 := hpost p hp
        have h30 := (hkey p hp).2
        rcases h30 with h4 | ⟨o, h4⟩
        · have h5 : r p.1 = st.n + (p.1 - me.n) := shift_new h4
          omega
        · have hjn := hlt0 _ _ h4
          have hr0 : ρc p.1 = none := by rw [hρi p.1 hjn (hpre _ _ h4).1]; rw [show r p.1 = i from h1]; exact hr
          have hv0 := hm.ext.virt p.1 hjn hr0
          rw [h4] at hv0
          have h8 := (hpre _ _ h4).2.2.2
          show (putR r st.h me.post).get i = st.h.get i
          rw [h2, ← h1, h8]
          cases hp2 : p.2 with
          | some o2 =>
            have := (hval p hp o2 hp2).1
            rw [hv0] at this
            injection this with this
            rw [this]; rfl
          | none =>
            simp only [okPost, hp2, hv0, Option.isNone_some, Bool.or_false, Bool.and_eq_true] at h3
            have := Nat.le_of_ble_eq_true h3.2
            omega
      · exact h2
    · show st.n ≤ st.n + (me.n' - me.n); omega
    · intro b hb hno
      refine hm.ext.keep b hb ?_
      intro j e ⟨o, hj⟩ hr
      exact hno (r j) e (hc0 j o hj) (hρ j _ hr).2.2
    · intro i b e ⟨o, hg⟩ hr
      rcases hget i o hg with ⟨j, oc, rfl, _, _, h3, h4⟩ | ⟨h1, h2, _⟩
      · rcases hm.ext.dom j b e ⟨oc, h3⟩ (hcan j _ h4 hr) with h5 | ⟨k, e', ⟨o', h5⟩, h6⟩
        · exact .inl h5
        · exact .inr ⟨r k, e', hc0 k o' h5, (hρ k _ h6).2.2⟩
      · exact .inr ⟨i, e, ⟨o, h2⟩, by rw [← hρ'o i h1]; exact hr⟩
  | _ => rw [hout] at h; cases h
end Ev
end

section
namespace Ev
open Go
/-! ### tables, laid from lists -/
noncomputable def ofAssocOn {α : Type} (t : Tr α) : List (Nat × α) → Tr α
  | [] => t
  | p :: ps => ofAssocOn (t.put bits p.1 (some p.2)) ps
noncomputable def ofAssoc {α : Type} (l : List (Nat × α)) : Tr α := ofAssocOn .nil l

theorem ofAssocOn_get {α : Type} : ∀ {l : List (Nat × α)} {t : Tr α} {i : Nat} {x : α}, (ofAssocOn t l).get i = some x → (i, x) ∈ l ∨ t.get i = some x
  | [], _, _, _, h => .inr h
  | p :: ps, t, i, x, h => by
    rcases ofAssocOn_get (l := ps) h with h1 | h1
    · exact .inl (List.mem_cons_of_mem _ h1)
    · rcases Tr.put_some h1 with ⟨h2, h3⟩ | ⟨_, h2⟩
      · injection h3 with h3
        obtain ⟨p1, p2⟩ := p
        simp only at h2 h3
        subst h2; subst h3
        exact .inl (List.mem_cons_self ..)
      · exact .inr h2

theorem ofAssoc_get {α : Type} {l : List (Nat × α)} {i : Nat} {x : α} (h : (ofAssoc l).get i = some x) : (i, x) ∈ l := by
  rcases ofAssocOn_get h with h1 | h1
  · exact h1
  · cases h1

theorem assoc_ok {α : Type} {g : Nat → Option α} : ∀ {l : List (Nat × α)}, l.map (fun p => g p.1) = l.map (fun p => some p.2) → ∀ {i : Nat} {x : α}, (i, x) ∈ l → g i = some x
  | [], _, _, _, h => by cases h
  | p :: ps, hl, i, x, h => by
    simp only [List.map_cons, List.cons.injEq] at hl
    rcases List.mem_cons.1 h with h1 | h1
    · rw [← h1] at hl; exact hl.1
    · exact assoc_ok hl.2 h1

theorem use_ok {D : Array Oper → Bool} {E : Env} {me : ME} (hF : CallF D E me) {args : List AV} {st : St} {σ : Tr Nat} {v : AV × St} (h : me.use E.P.globals.size args st σ = some v) {ρ : Rho} {w : World} {xs : List Value} (hR : Rel E (GE D E) ρ st w.heap)
    (hxs : VRs ρ args xs) : Calls E.P me.f ⟨xs⟩ w fun e w' => ∃ x ρ', e = .returned x ∧ VR ρ' v.1 x ∧ Mv E (GE D E) ρ st w ρ' v.2 w' := by
  unfold ME.use at h
  split at h
  · split at h
    · rename_i hf
      injection h with h
      subst h
      exact hF σ ρ st w args xs hR hxs hf
    · cases h
  · cases h

theorem memo_ok {D : Array Oper → Bool} {E : Env} {f : FuncId} : ∀ {t : List ME}, (∀ me ∈ t, me.f = f ∧ CallF D E me) → ∀ {args : List AV} {st : St} {v : AV × St}, memoL E.P.globals.size args st t = some v → ∀ {ρ : Rho} {w : World} {xs : List Value}, Rel E (GE D E) ρ st w.heap → VRs ρ args xs →
    Calls E.P f ⟨xs⟩ w fun e w' => ∃ x ρ', e = .returned x ∧ VR ρ' v.1 x ∧ Mv E (GE D E) ρ st w ρ' v.2 w'
  | [], _, _, _, _, h, _, _, _, _, _ => by cases h
  | me :: ms, ht, args, st, v, h, ρ, w, xs, hR, hxs => by
    unfold memoL at h
    split at h
    · rename_i r hr
      injection h with h
      subst h
      obtain ⟨h1, h2⟩ := ht me (List.mem_cons_self ..)
      rw [← h1]
      exact use_ok h2 hr hR hxs
    · exact memo_ok (fun x hx => ht x (List.mem_cons_of_mem _ hx)) h hR hxs

/-- the calls' words, by function -/
noncomputable def memoOn (M : Tr (List ME)) : List ME → Tr (List ME)
  | [] => M
  | me :: ms => memoOn (M.put bits me.f (some ((match M.get me.f with | some t => t | none => []) ++ [me]))) ms
noncomputable def memoOf (l : List ME) : Tr (List ME) := memoOn .nil l

theorem memoOn_get : ∀ {l : List ME} {M : Tr (List ME)} {f : Nat} {t : List ME} {me : ME}, (∀ f t me, M.get f = some t → me ∈ t → me.f = f) → (memoOn M l).get f = some t → me ∈ t →
    me.f = f ∧ (me ∈ l ∨ ∃ t', M.get f = some t' ∧ me ∈ t')
  | [], _, _, _, _, hM, h, h' => ⟨hM _ _ _ h h', .inr ⟨_, h, h'⟩⟩
  | x :: xs, M, f, t, me, hM, h, h' => by
    have hM' : ∀ f t me, (M.put bits x.f (some ((match M.get x.f with | some t => t | none => []) ++ [x]))).get f = some t → me ∈ t → me.f = f := by
      intro f t me h1 h2
      rcases Tr.put_some h1 with ⟨h3, h4⟩ | ⟨_, h3⟩
      · injection h4 with h4
        subst h4
        rcases List.mem_append.1 h2 with h5 | h5
        · cases hx : M.get x.f with
          | none => rw [hx] at h5; cases h5
          | some t0 => rw [hx] at h5; rw [h3]; exact hM _ _ _ hx h5
        · rw [List.mem_singleton.1 h5, h3]
      · exact hM _ _ _ h3 h2
    obtain ⟨h1, h2⟩ := memoOn_get (l := xs) hM' h h'
    refine ⟨h1, ?_⟩
    rcases h2 with h2 | ⟨t', h2, h3⟩
    · exact .inl (List.mem_cons_of_mem _ h2)
    · rcases Tr.put_some h2 with ⟨h4, h5⟩ | ⟨_, h4⟩
      · injection h5 with h5
        subst h5
        rcases List.mem_append.1 h3 with h6 | h6
        · cases hx : M.get x.f with
          | none => rw [hx] at h6; cases h6
          | some t0 => rw [hx] at h6; rw [h4]; exact .inr ⟨_, hx, h6⟩
        · exact .inl (List.mem_singleton.1 h6 ▸ List.mem_cons_self ..)
      · exact .inr ⟨_, h4, h3⟩

abbrev Plug := List AV → St → Option (AV × St)

/-- a plug that keeps its word -/
def PlugOK (D : Array Oper → Bool) (E : Env) (f : FuncId) (p : Plug) : Prop :=
  ∀ args st v, p args st = some v → ∀ (ρ : Rho) (w : World) xs, Rel E (GE D E) ρ st w.heap → VRs ρ args xs →
    Calls E.P f ⟨xs⟩ w fun e w' => ∃ x ρ', e = .returned x ∧ VR ρ' v.1 x ∧ Mv E (GE D E) ρ st w ρ' v.2 w'

theorem PlugOK.env {E E' : Env} (hP : E.P = E'.P) (hty : E.ty = E'.ty) (hgh : E.gh = E'.gh) {D : Array Oper → Bool} {f : FuncId} {p : Plug} (h : PlugOK D E f p) : PlugOK D E' f p := by
  intro args st v hv ρ w xs hR hxs
  rw [← hP]
  exact (h args st v hv ρ w xs (hR.env hP.symm hty.symm hgh.symm) hxs).mono fun e w' ⟨x, ρ', h1, h2, h3⟩ => ⟨x, ρ', h1, h2, h3.env hP hty hgh⟩

/-- an environment with plugs: contracts by function, then calls' words -/
noncomputable def Env.plugs (E : Env) (C : List (Nat × Plug)) (l : List ME) : Env :=
  { E with plug := fun f => match (ofAssoc C).get f with
      | some p => some p
      | none => match (memoOf l).get f with
        | some t => some (fun args s => memoL E.P.globals.size args s t)
        | none => none }

def AllF (D : Array Oper → Bool) (E : Env) : List ME → Prop
  | [] => True
  | me :: ms => CallF D E me ∧ AllF D E ms

def AllP (D : Array Oper → Bool) (E : Env) : List (Nat × Plug) → Prop
  | [] => True
  | p :: ps => PlugOK D E p.1 p.2 ∧ AllP D E ps

theorem AllF.mem {D : Array Oper → Bool} {E : Env} : ∀ {l : List ME} {me : ME}, AllF D E l → me ∈ l → CallF D E me
  | x :: xs, me, h, hm => by
    rcases List.mem_cons.1 hm with rfl | hm
    · exact h.1
    · exact AllF.mem h.2 hm

theorem AllP.mem {D : Array Oper → Bool} {E : Env} : ∀ {l : List (Nat × Plug)} {p : Nat × Plug}, AllP D E l → p ∈ l → PlugOK D E p.1 p.2
  | x :: xs, p, h, hm => by
    rcases List.mem_cons.1 hm with rfl | hm
    · exact h.1
    · exact AllP.mem h.2 hm

/-- the check of every body -/
def BodyOK (D : Array Oper → Bool) (E : Env) : Prop := ∀ f fn c, E.fn f = some fn → fn.body = some c → goodC D E.P.globals.size fn.ntmps c = true

/-- A CALL THAT IS RUN, GIVEN OTHER CALLS -/
theorem seg {E : Env} (hOK : EOK E) (hB : BodyOK planOK E) (hm : E.P.follows .mixedOrders = true) {C : List (Nat × Plug)} (hC : AllP planOK E C) {l : List ME} (hl : AllF planOK E l) {k : Nat} {me : ME}
    (h : me.ok (E.plugs C l) k = true) : CallF planOK E me := by
  have hOK' : EOK (E.plugs C l) := ⟨hOK.ty, hOK.fn, hOK.name⟩
  have hBOK : BOK planOK (E.plugs C l) := by
    refine ⟨hB, ?_⟩
    intro f p hp args st v hv ρ w xs hR hxs
    simp only [Env.plugs] at hp
    split at hp
    · rename_i p' hp'
      injection hp with hp
      subst hp
      exact (AllP.mem hC (ofAssoc_get hp')).env (E := E) (E' := E.plugs C l) rfl rfl rfl args st v hv ρ w xs hR hxs
    · split at hp
      · rename_i t ht
        injection hp with hp
        subst hp
        refine memo_ok (D := planOK) (E := E.plugs C l) (f := f) (t := t) ?_ hv hR hxs
        intro me' hme
        obtain ⟨h1, h2⟩ := memoOn_get (M := .nil) (fun _ _ _ h => by cases h) ht hme
        refine ⟨h1, ?_⟩
        rcases h2 with h2 | ⟨t', h2, _⟩
        · exact CallF.env (E := E) (E' := E.plugs C l) rfl rfl rfl (AllF.mem hl h2)
        · cases h2
      · cases hp
  exact CallF.env (E := E.plugs C l) (E' := E) rfl rfl rfl (callF_of_run (ev_sound hOK' hBOK hm k) h)
end Ev
end

section
namespace Ev
open Go Go.RowKit

/-- nothing that was there has turned -/
theorem below_mv {E : Env} {G : Good} {ρ : Rho} {st : St} {w w' : World} (hR : Rel E G ρ st w.heap) (hb : Below w.heap.size w w') : Mv E G ρ st w ρ st w' := by
  refine ⟨⟨?_, hR.inj, hR.fresh, fun i b e h => Nat.lt_of_lt_of_le (hR.below i b e h) hb.size, hR.glob⟩, ⟨Le.refl ρ, fun _ _ h => h, fun _ _ _ => rfl, Nat.le_refl _, hb.size, fun b h _ => hb.block b h, fun i b e hl hr => .inr ⟨i, e, hl, hr⟩⟩, ⟨hb.os, hb.tape, hb.output⟩, rfl⟩
  intro i o b e h1 h2
  obtain ⟨ob, h3, h4⟩ := hR.obj i o b e h1 h2
  exact ⟨ob, by rw [hb.block b (hR.below i b e h2)]; exact h3, h4⟩

noncomputable def strsOf : List Value → Option (List ByteArray)
  | [] => some []
  | v :: vs => match v with
    | .string s => match strsOf vs with
      | some l => some (s :: l)
      | none => none
    | _ => none

theorem strsOf_get : ∀ {vs : List Value} {l : List ByteArray}, strsOf vs = some l → vs = l.map .string
  | [], l, h => by cases h; rfl
  | v :: vs, l, h => by
    unfold strsOf at h
    split at h
    · split at h
      · rename_i s l' hl
        injection h with h
        subst h
        rw [strsOf_get hl]; rfl
      · cases h
    · cases h

noncomputable def joinB (bs : List ByteArray) (sep : ByteArray) : List UInt8 := Lib.join (bs.map (·.data.toList)) sep.data.toList

/-- strings.Join on a row of strings -/
noncomputable def joinP : Plug := fun args s =>
  match args with
  | [x, y] => match x, y with
    | .sl i o l c _, .val v => match v with
      | .string sep => match loadCells s i o l with
        | some cs => match AV.toVals cs with
          | some vs => match strsOf vs with
            | some bs => if bs.length = l ∧ l ≤ c ∧ l ≤ 140737488355328 ∧ (joinB bs sep).length ≤ 140737488355328 then some (.val (.string ⟨(joinB bs sep).toArray⟩), s) else none
            | none => none
          | none => none
        | none => none
      | _ => none
    | _, _ => none
  | _ => none

theorem join_plug {D : Array Oper → Bool} {E : Env} {f : FuncId}
    (hc : ∀ (bk o c : Nat) (xs : List ByteArray) (sep : ByteArray) (w : World), (∀ (j : Nat) x, xs[j]? = some x → w.cell? ⟨bk, o + j, none⟩ = some (.string x)) → bk < w.heap.size → xs.length ≤ 140737488355328 → xs.length ≤ c →
      (Lib.join (xs.map (·.data.toList)) sep.data.toList).length ≤ 140737488355328 →
      Calls E.P f #[.slice (some ⟨bk, o, none⟩) xs.length c, .string sep] w fun e w' => e = .returned (.string ⟨(Lib.join (xs.map (·.data.toList)) sep.data.toList).toArray⟩) ∧ Below w.heap.size w w') : PlugOK D E f joinP := by
  intro args st v hv ρ w xs hR hxs
  unfold joinP at hv
  split at hv
  · rename_i x y
    split at hv
    · rename_i i o l c xx v'
      split at hv
      · rename_i sep
        split at hv
        · rename_i cs hcs
          split at hv
          · rename_i vs hvs
            split at hv
            · rename_i bs hbs
              split at hv
              · rename_i hk
                injection hv with hv
                subst hv
                obtain ⟨k1, k2, k3, k4⟩ := hk
                cases hxs with
                | cons h1 h2 =>
                  cases h2 with
                  | cons h3 h4 =>
                    cases h4
                    cases h3
                    cases h1 with
                    | sl hr =>
                      rename_i b e
                      have hcell : ∀ (j : Nat) x, bs[j]? = some x → w.cell? ⟨b, o + j, none⟩ = some (.string x) := by
                        unfold Ev.loadCells at hcs
                        split at hcs
                        · rename_i all el xf hg
                          obtain ⟨ob, g1, g2⟩ := hR.obj _ _ _ _ hg hr
                          cases g2 with
                          | cells vs0 rest fr g3 g4 g5 g6 =>
                            dsimp only at hcs
                            split at hcs
                            · rename_i hl
                              injection hcs with hcs
                              have g7 := (g3.drop o).take l
                              rw [hcs] at g7
                              have g8 := g7.toVals hvs
                              have g9 := strsOf_get hbs
                              intro j x hj
                              rw [cell_of w b _ g1]
                              have h10 : ((vs0.drop o).take l)[j]? = some (.string x) := by rw [g8, g9]; simp [hj]
                              rw [List.getElem?_take] at h10
                              split at h10
                              · rw [List.getElem?_drop] at h10
                                rw [List.getElem?_append_left (by
                                  rcases Nat.lt_or_ge (o + j) vs0.length with h | h
                                  · exact h
                                  · rw [List.getElem?_eq_none h] at h10; cases h10)]
                                exact h10
                              · cases h10
                            · cases hcs
                        · cases hcs
                      have hcall := hc b o (if xx then c + e else c) bs sep w hcell (hR.below _ _ _ hr) (by omega) (by split <;> omega) k4
                      rw [k1] at hcall
                      exact hcall.mono fun e' w' ⟨h5, h6⟩ => ⟨_, ρ, h5, .val _, below_mv hR h6⟩
              · cases hv
            · cases hv
          · cases hv
        · cases hv
      · cases hv
    · cases hv
  · cases hv
end Ev
end

section
namespace Ev
open Go Go.RowKit

/-! ### a closed run, in any world that bears the program's tables -/

/-- the world bears the tables -/
def Tabs (P : Program) (tabs : List (Nat × List AV)) (w : World) : Prop :=
  P.globals.size ≤ w.heap.size ∧ ∀ p ∈ tabs, p.1 < P.globals.size ∧ ∃ vs el fr, w.heap[p.1]? = some (.cells ⟨vs⟩ el fr) ∧ ∀ ρ, VRs ρ p.2 vs

theorem Tabs.below {P : Program} {tabs : List (Nat × List AV)} {w w' : World} (h : Tabs P tabs w) (hb : Below w.heap.size w w') : Tabs P tabs w' := by
  refine ⟨Nat.le_trans h.1 hb.size, fun p hp => ?_⟩
  obtain ⟨h1, vs, el, fr, h2, h3⟩ := h.2 p hp
  exact ⟨h1, vs, el, fr, by rw [hb.block p.1 (by have := h.1; omega)]; exact h2, h3⟩

noncomputable def ghOf (w : World) : Nat → Obj := fun k => match w.heap[k]? with | some o => o | none => .cells #[] 0 (0, 0)
noncomputable def stOf (n : Nat) (tabs : List (Nat × List AV)) : St := ⟨putAll .nil (tabs.map fun p => (p.1, .ro p.1 p.2)), n, none⟩
def rhoOf (n : Nat) : Rho := fun i => if i < n then some (i, 0) else none

theorem rel_of_tabs {D : Array Oper → Bool} {E : Env} {w : World} (hgh : E.gh = ghOf w) {tabs : List (Nat × List AV)} (h : Tabs E.P tabs w) : Rel E (GE D E) (rhoOf E.P.globals.size) (stOf E.P.globals.size tabs) w.heap := by
  have hg : ∀ i o, (stOf E.P.globals.size tabs).h.get i = some o → ∃ p ∈ tabs, i = p.1 ∧ o = .ro p.1 p.2 := by
    intro i o hi
    rcases putAll_get (hi : (putAll .nil _).get i = some o) with h1 | h1
    · obtain ⟨p, hp, he⟩ := List.mem_map.1 h1
      injection he with e1 e2
      exact ⟨p, hp, e1.symm, e2.symm⟩
    · cases h1
  have hr : ∀ i b e, rhoOf E.P.globals.size i = some (b, e) → i < E.P.globals.size ∧ b = i ∧ e = 0 := by
    intro i b e hi
    unfold rhoOf at hi
    split at hi
    · injection hi with hi
      injection hi with h1 h2
      exact ⟨‹_›, h1.symm, h2.symm⟩
    · cases hi
  refine ⟨?_, ?_, ?_, ?_, ?_⟩
  · intro i o b e hi hb
    obtain ⟨p, hp, rfl, rfl⟩ := hg i o hi
    obtain ⟨_, rfl, rfl⟩ := hr _ _ _ hb
    obtain ⟨_, vs, el, fr, h2, h3⟩ := h.2 p hp
    exact ⟨_, h2, .ro vs el fr (h3 _) (by rw [hgh]; unfold ghOf; rw [h2])⟩
  · intro i j b e e' _ _ h1 h2
    rw [← (hr _ _ _ h1).2.1, ← (hr _ _ _ h2).2.1]
  · intro i hi
    have hi' : E.P.globals.size ≤ i := hi
    refine ⟨?_, ?_⟩
    · unfold rhoOf
      rw [if_neg (by omega)]
    · cases hx : (stOf E.P.globals.size tabs).h.get i with
      | none => rfl
      | some o =>
        obtain ⟨p, hp, rfl, _⟩ := hg i o hx
        have := (h.2 p hp).1
        omega
  · intro i b e hi
    obtain ⟨h1, rfl, _⟩ := hr _ _ _ hi
    have := h.1
    omega
  · intro g hg
    unfold rhoOf
    rw [if_pos hg]

/-- A CLOSED RUN THAT ENDS IN A VALUE: in any world that bears the tables -/
theorem run_closed {D : Array Oper → Bool} {E : Env} {w : World} (hgh : E.gh = ghOf w) {tabs : List (Nat × List AV)} (h : Tabs E.P tabs w) {me : ME} (hF : CallF D E me) {f : FuncId} (hf : me.f = f) {v : Value} (hv : me.v = mkVal v) (hcell : (mkVal v).toVal = some v) (hpost : me.post = [])
    (hfit : me.fits E.P.globals.size [] (stOf E.P.globals.size tabs) .nil = true) : Calls E.P f #[] w fun e w' => e = .returned v ∧ Below w.heap.size w w' := by
  subst hf
  have hR := rel_of_tabs (D := D) hgh h
  refine (hF .nil _ _ w [] [] hR .nil hfit).mono ?_
  rintro e w' ⟨x, ρ', rfl, hx, hm⟩
  have hren : ∀ r : Nat → Nat, AV.ren r (mkVal v) = mkVal v := by
    intro r
    cases v <;> try rfl
    rename_i k n
    cases k <;> rfl
  rw [hv, hren] at hx
  refine ⟨by rw [hx.toVal hcell], hm.same.os, hm.same.tape, hm.same.output, hm.ext.size, ?_⟩
  intro k hk
  by_cases hex : ∃ p ∈ tabs, p.1 = k
  · obtain ⟨p, hp, rfl⟩ := hex
    by_cases hl : ∃ o, (stOf E.P.globals.size tabs).h.get p.1 = some o
    · obtain ⟨o, ho⟩ := hl
      obtain ⟨q, hq, hqe, rfl⟩ : ∃ q ∈ tabs, p.1 = q.1 ∧ o = .ro q.1 q.2 := by
        rcases putAll_get (ho : (putAll .nil _).get p.1 = some o) with h1 | h1
        · obtain ⟨q, hq, he⟩ := List.mem_map.1 h1
          injection he with e1 e2
          exact ⟨q, hq, e1.symm, e2.symm⟩
        · cases h1
      have hr : ρ' p.1 = some (p.1, 0) := hm.ext.mono _ _ (by unfold rhoOf; rw [if_pos (h.2 p hp).1])
      have ho' : (me.after (stOf E.P.globals.size tabs) .nil).h.get p.1 = some (.ro q.1 q.2) := by
        unfold ME.after
        rw [hpost]
        exact ho
      obtain ⟨ob, h1, h2⟩ := hm.rel.obj _ _ _ _ ho' hr
      obtain ⟨_, vs, el, fr, h3, _⟩ := h.2 q hq
      cases h2 with
      | ro vs' el' fr' _ hg2 =>
        rw [h1, ← hg2, hgh, ← hqe]
        unfold ghOf
        rw [hqe, h3]
    · refine hm.ext.keep _ hk ?_
      intro i e ⟨o, hi⟩ hri
      have : i = p.1 := by
        unfold rhoOf at hri
        split at hri
        · injection hri with hri; injection hri
        · cases hri
      subst this
      exact hl ⟨o, hi⟩
  · refine hm.ext.keep _ hk ?_
    intro i e ⟨o, hi⟩ hri
    have hik : i = k := by
      unfold rhoOf at hri
      split at hri
      · injection hri with hri; injection hri
      · cases hri
    subst hik
    rcases putAll_get (hi : (putAll .nil _).get i = some o) with h1 | h1
    · obtain ⟨p, hp, he⟩ := List.mem_map.1 h1
      injection he with e1 _
      exact hex ⟨p, hp, e1⟩
    · cases h1
end Ev
end
