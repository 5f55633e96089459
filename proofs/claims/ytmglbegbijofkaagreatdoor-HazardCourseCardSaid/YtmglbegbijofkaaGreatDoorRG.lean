/- A region, and what follows it, of a function by its number; a region in which two operations may come up. -/
import Derived.Test.YtmglbegbijofkaaGreatDoorRL
set_option linter.unusedVariables false
set_option linter.unusedSimpArgs false
namespace Go.Proofs.YtmglbegbijofkaaGreatDoor
open Go
/-- the region of a number in a function's code -/
def rgCode : Code → Nat → Option Code
  | .region i o d, n => if i = n then some (.region i o d) else none
  | .seq a b, n => match rgCode a n with
    | some c => some c
    | none => rgCode b n
  | .cond _ a b, n => match rgCode a n with
    | some c => some c
    | none => rgCode b n
  | .block _ a, n => rgCode a n
  | .loop a, n => rgCode a n
  | .scope a, n => rgCode a n
  | _, _ => none
def rgOf (f : Func) (n : Nat) : Code := match f.body with
  | some c => match rgCode c n with
    | some r => r
    | none => .skip
  | none => .skip
/-- what follows the region of a number in the sequence that it stands in -/
def tlCode : Code → Nat → Option Code
  | .seq (.region i _ _) b, n => if i = n then some b else tlCode b n
  | .seq a b, n => match tlCode a n with
    | some c => some c
    | none => tlCode b n
  | .cond _ a b, n => match tlCode a n with
    | some c => some c
    | none => tlCode b n
  | .block _ a, n => tlCode a n
  | .loop a, n => tlCode a n
  | .scope a, n => tlCode a n
  | _, _ => none
def tlOf (f : Func) (n : Nat) : Code := match f.body with
  | some c => match tlCode c n with
    | some r => r
    | none => .skip
  | none => .skip
/-- the second half of a sequence -/
def rsOf : Code → Code
  | .seq _ b => b
  | _ => .skip
section
variable {P : Program} {ops : Array Oper} {Q : Exit → Act → World → Prop} {md : Region.Mode} {S : World → Prop} {l : Nat}
/-- two operations may come up -/
theorem wpAnyL_two {i j : Nat} {oi oj : Oper} {fuel : Nat} {listed : Array Bool} {a : Act} {w : World} (hr : Region.ready md ops listed = [i, j]) (hi : ops[i]? = some oi) (hj : ops[j]? = some oj)
    (h1 : ∀ K' : Act → World → Prop, Shut (∀ a w, ((listed.setIfInBounds i true).getD l true = false → S w) → wpAnyL P md ops Q S l fuel (listed.setIfInBounds i true) a w → K' a w) → if Region.wanted oi (yielded ops a.tmps) = true then Oper.wp P oi a w K' Q else K' (a.put oi.dst undef) w)
    (h2 : ∀ K' : Act → World → Prop, Shut (∀ a w, ((listed.setIfInBounds j true).getD l true = false → S w) → wpAnyL P md ops Q S l fuel (listed.setIfInBounds j true) a w → K' a w) → if Region.wanted oj (yielded ops a.tmps) = true then Oper.wp P oj a w K' Q else K' (a.put oj.dst undef) w) :
    wpAnyL P md ops Q S l (fuel + 1) listed a w :=
  ⟨fun h0 => absurd (hr.symm.trans h0) (by simp), fun k hk => by
    rw [hr] at hk
    have hk' : k = i ∨ k = j := by simpa using hk
    rcases hk' with rfl | rfl
    · exact wpOp_step hi (fun K' hK => h1 K' (fun a w hS hW => hK a w ⟨hS, hW⟩))
    · exact wpOp_step hj (fun K' hK => h2 K' (fun a w hS hW => hK a w ⟨hS, hW⟩))⟩
end
end Go.Proofs.YtmglbegbijofkaaGreatDoor
