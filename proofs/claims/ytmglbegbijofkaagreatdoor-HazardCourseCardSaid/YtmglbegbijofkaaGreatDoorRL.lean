/- A region that draws its order and ends in one operation that may unmake what its loads read: the loads are taken first, S is asked as long as that operation has not come up. -/
import Derived.Deep.RegionHeld3
import Derived.WalkKit
set_option linter.unusedVariables false
set_option linter.unusedSimpArgs false
namespace Go.Proofs.YtmglbegbijofkaaGreatDoor
open Go
section
variable {P : Program} {ops : Array Oper} {Q : Exit → Act → World → Prop} {md : Region.Mode} {S : World → Prop} {l : Nat}
/-- whatever order is picked from here on, and S holds behind every operation as long as number l has not come up -/
def wpAnyL (P : Program) (md : Region.Mode) (ops : Array Oper) (Q : Exit → Act → World → Prop) (S : World → Prop) (l : Nat) : Nat → Array Bool → Act → World → Prop
  | 0, listed, a, w => Region.ready md ops listed = [] ∧ Q .normal a w
  | fuel + 1, listed, a, w =>
    (Region.ready md ops listed = [] → Q .normal a w) ∧
    ∀ i ∈ Region.ready md ops listed, wpOp P ops Q i (fun a' w' => ((listed.setIfInBounds i true).getD l true = false → S w') ∧ wpAnyL P md ops Q S l fuel (listed.setIfInBounds i true) a' w') a w
theorem wpAny_of_heldL : ∀ (fuel : Nat) (listed : Array Bool) (a : Act) (w : World), wpAnyL P md ops Q S l fuel listed a w → wpAny P md ops Q fuel listed a w
  | 0, _, _, _, h => h
  | fuel + 1, _, _, _, h => ⟨h.1, fun i hi => wpOp_mono (fun a' w' h' => wpAny_of_heldL fuel _ a' w' h'.2) (h.2 i hi)⟩
/-- each of a chain waits for the one ahead of it, the first for number i -/
def linkB (md : Region.Mode) (ops : Array Oper) : Nat → List Nat → Bool
  | _, [] => true
  | i, c :: ch => ((ops[c]?).map fun o => o.after.toList.any fun e => Region.binds md e && e.on == i).getD false && linkB md ops c ch
theorem not_both {listed : Array Bool} {i : Nat} (h0 : listed.getD i true = false) (h1 : listed.getD i false = true) : False := by
  rcases Nat.lt_or_ge i listed.size with h' | h'
  · simp [h'] at h0 h1; rw [h0] at h1; cases h1
  · simp [Array.getElem?_eq_none h'] at h1
theorem link_not_ready {listed : Array Bool} : ∀ {i : Nat} {ch : List Nat}, linkB md ops i ch = true → listed.getD i true = false → (∀ c ∈ ch, listed.getD c true = false) → ∀ c ∈ ch, c ∉ Region.ready md ops listed
  | i, [], _, _, _, c, hc => by cases hc
  | i, d :: ch, hl, hi, hu, c, hc => by
    simp only [linkB, Bool.and_eq_true] at hl
    rcases List.mem_cons.1 hc with rfl | hc
    · intro hr
      obtain ⟨_, o, ho, hall⟩ := mem_ready.1 hr
      have h1 := hl.1
      rw [ho] at h1
      simp only [Option.map_some, Option.getD_some, List.any_eq_true, Bool.and_eq_true, beq_iff_eq] at h1
      obtain ⟨e, he, hb, hon⟩ := h1
      exact not_both hi (hon ▸ hall e (by simpa using he) hb)
    · exact link_not_ready hl.2 (hu d (by simp)) (fun c hc => hu c (by simp [hc])) c hc
theorem wpAnyL_first {i : Nat} {oi : Oper} {v : Value} {ch : List Nat} (hi : ops[i]? = some oi) (hsel : ∀ (j : Nat) (o : Oper) cs b, ops[j]? = some o → o.op ≠ .select cs b)
    (hQ : ∀ c a w, Q (.panic c) (a.put oi.dst v) w → Q (.panic c) a w) (hch : linkB md ops i ch = true) (hl : l ∈ ch) :
    ∀ (fuel : Nat) (listed : Array Bool) (a : Act) (w : World),
      (∀ j oj, ops[j]? = some oj → j ≠ i → listed.getD j true = false → (∀ e ∈ oj.after, Region.binds md e = true → e.on ≠ i) → oi.apart ops oj = true) →
      i ∈ Region.ready md ops listed → (∀ c ∈ ch, listed.getD c true = false) → YieldsIf P ops S oi v a → S w →
      wpAnyL P md ops Q S l fuel (listed.setIfInBounds i true) (a.put oi.dst v) w → wpAnyL P md ops Q S l (fuel + 1) listed a w := by
  intro fuel
  induction fuel with
  | zero =>
    intro listed a w _ hr _ hy hS H
    refine ⟨fun h => (by rw [h] at hr; cases hr), fun j hj => ?_⟩
    by_cases hji : j = i
    · subst hji; exact hy.wpOp hi hS ⟨fun _ => hS, H⟩
    · have := ready_mono hj hji
      rw [H.1] at this
      cases this
  | succ fuel ih =>
    intro listed a w hfree hr hu hy hS H
    refine ⟨fun h => (by rw [h] at hr; cases hr), fun j hj => ?_⟩
    by_cases hji : j = i
    · subst hji; exact hy.wpOp hi hS ⟨fun _ => hS, H⟩
    · have h1 := H.2 j (ready_mono hj hji)
      obtain ⟨hjun, oj, hoj, hall⟩ := mem_ready.1 hj
      have hiun := (mem_ready.1 hr).1
      have hnr := link_not_ready hch hiun hu
      have hjc : ∀ c ∈ ch, j ≠ c := fun c hc e => hnr c hc (e ▸ hj)
      have hil : i ≠ l := fun e => hnr l hl (e ▸ hr)
      have hnot : ∀ e ∈ oj.after, Region.binds md e = true → e.on ≠ i := fun e he hb heq => not_both hiun (heq ▸ hall e he hb)
      have h2 := wpOp_putIf hoj (hfree j oj hoj hji hjun hnot) (fun cs b => hsel i oi cs b hi) (fun cs b => hsel j oj cs b hoj) hQ hy h1
      have hfree' : ∀ k ok, ops[k]? = some ok → k ≠ i → (listed.setIfInBounds j true).getD k true = false →
          (∀ e ∈ ok.after, Region.binds md e = true → e.on ≠ i) → oi.apart ops ok = true := fun k ok hk hki hun hno => by
        refine hfree k ok hk hki ?_ hno
        by_cases hjk : j = k
        · subst hjk; exact hjun
        · rw [getD_set_ne true hjk] at hun; exact hun
      have hu' : ∀ c ∈ ch, (listed.setIfInBounds j true).getD c true = false := fun c hc => by rw [getD_set_ne true (hjc c hc)]; exact hu c hc
      have hlu : ((listed.setIfInBounds i true).setIfInBounds j true).getD l true = false := by
        rw [getD_set_ne true (hjc l hl), getD_set_ne true hil]; exact hu l hl
      refine wpOp_mono (fun a' w' h3 => ⟨fun _ => h3.2.1 hlu, ih (listed.setIfInBounds j true) a' w' hfree' (ready_mono hr (Ne.symm hji)) hu' h3.1 (h3.2.1 hlu) ?_⟩) h2
      rw [Array.setIfInBounds_comm _ _ hji]
      exact h3.2.2
/-- take number i first -/
theorem wpAnyL_take {i : Nat} {oi : Oper} {v : Value} {ch : List Nat} {fuel : Nat} {listed : Array Bool} {a : Act} {w : World} (hi : ops[i]? = some oi)
    (hs : Region.noSelect ops = true) (hf : Region.free md ops listed i = true) (hr : (Region.ready md ops listed).contains i = true) (hch : (linkB md ops i ch && ch.contains l && ch.all fun c => !listed.getD c true) = true)
    (hQ : ∀ c a w, Q (.panic c) (a.put oi.dst v) w → Q (.panic c) a w) (hy : YieldsIf P ops S oi v a) (hS : S w)
    (h : wpAnyL P md ops Q S l fuel (listed.setIfInBounds i true) (a.put oi.dst v) w) : wpAnyL P md ops Q S l (fuel + 1) listed a w := by
  simp only [Bool.and_eq_true] at hch
  exact wpAnyL_first hi (Region.noSelect_spec hs) hQ hch.1.1 (by simpa using hch.1.2) fuel listed a w (Region.free_spec hi hf) (by simpa using hr) (fun c hc => by have := List.all_eq_true.1 hch.2 c hc; simpa using this) hy hS h
/-- one operation alone may come up -/
theorem wpAnyL_one {i : Nat} {o : Oper} {fuel : Nat} {listed : Array Bool} {a : Act} {w : World} (hr : Region.ready md ops listed = [i]) (ho : ops[i]? = some o)
    (h : ∀ K' : Act → World → Prop, Shut (∀ a w, ((listed.setIfInBounds i true).getD l true = false → S w) → wpAnyL P md ops Q S l fuel (listed.setIfInBounds i true) a w → K' a w) → if Region.wanted o (yielded ops a.tmps) = true then Oper.wp P o a w K' Q else K' (a.put o.dst undef) w) :
    wpAnyL P md ops Q S l (fuel + 1) listed a w :=
  ⟨fun h0 => absurd (hr.symm.trans h0) (by simp), fun j hj => by
    rw [hr] at hj
    obtain rfl : j = i := by simpa using hj
    exact wpOp_step ho (fun K' hK => h K' (fun a w hS hW => hK a w ⟨hS, hW⟩))⟩
theorem wpAnyL_done {listed : Array Bool} {a : Act} {w : World} (hr : Region.ready md ops listed = []) (h : Q .normal a w) :
    ∀ fuel, wpAnyL P md ops Q S l fuel listed a w
  | 0 => ⟨hr, h⟩
  | _ + 1 => ⟨fun _ => h, by rw [hr]; simp⟩
theorem wp_region_L {id : Nat} {a : Act} {w : World} (l : Nat) (S : World → Prop) (hm : P.follows .mixedOrders = true)
    (h : wpAnyL P .any ops Q S l ops.size (Array.replicate ops.size false) a w.drew) : (Code.region id ops true).wp P Q a w :=
  wp_region_any hm (wpAny_of_heldL _ _ _ _ h)
end
end Go.Proofs.YtmglbegbijofkaaGreatDoor
