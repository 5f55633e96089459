import Derived.Test.YtmglbegbijofkaaGreatDoorW15
import Derived.Test.YtmglbegbijofkaaGreatDoorW19
set_option linter.unusedVariables false
set_option linter.unusedSimpArgs false
namespace Go.Proofs.YtmglbegbijofkaaGreatDoor
open Go.RowKit Go.Shelf Go.Sort

def mkIdx (n : Nat) (hn : 0 < n) (x : Int) : Idx n := if h : x.toNat < n then ⟨x.toNat, h⟩ else ⟨0, hn⟩
def dI (zs : List Int) (hn : 0 < zs.length) (L : List Int) : Array (Idx zs.length) := (L.map (mkIdx zs.length hn)).toArray
/-- the cells in the order of the stable sort, below 20 -/
def stS (zs : List Int) (hn : 0 < zs.length) (L : List Int) : List Int := (@Sort.insertionSort (Idx zs.length) ⟨⟨0, hn⟩⟩ (ltOf (cfI zs)) (dI zs hn L) 0 L.length).toList.map fun x => (x.i : Int)
/-- SortStableFunc of the cells L by the people zs gives S -/
def StableC (zs L S : List Int) : Prop :=
  ∀ (bm blk cap : Nat) (pv : Value) (W : World), W.cell? ⟨bm, 5, none⟩ = some pv → IntsAt W pv zs → bm ≠ blk → (∀ b o m c, pv = .slice (some ⟨b, o, none⟩) m c → b ≠ blk) →
    (∀ j, j < L.length → W.cell? ⟨blk, j, none⟩ = some (intF L j) ∧ W.frozen? ⟨blk, j, none⟩ = false) → blk < W.heap.size →
    Calls Tryz.prog 82 #[.slice (some ⟨blk, 0, none⟩) L.length cap, .func (.func 83) #[] #[.pointer (some ⟨bm, 0, none⟩)]] W fun e w' =>
      e = .returned (.tuple #[]) ∧ W.grownBy w' (some blk) ∧ ∀ j, j < S.length → w'.cell? ⟨blk, j, none⟩ = some (intF S j)
theorem cfI_lt (zs : List Int) (x y : Idx zs.length) : ltOf (cfI zs) x y = decide (zs.getD y.i 0 < zs.getD x.i 0) := by
  unfold ltOf cfI Lib.compareInt
  generalize zs.getD y.i 0 = p
  generalize zs.getD x.i 0 = q
  by_cases h : p < q
  · simp [h]
  · by_cases h2 : p > q
    · simp [h, h2]
    · simp [h, h2]
theorem swo_cfI (zs : List Int) : SWO (ltOf (cfI zs)) :=
  ⟨fun x => by rw [cfI_lt]; simp, fun x y z h1 h2 => by rw [cfI_lt] at *; simp only [decide_eq_true_eq] at *; omega, fun x y z h1 h2 => by rw [cfI_lt] at *; simp only [decide_eq_false_iff_not] at *; omega⟩
theorem sw_grown {α : Type} [Inhabited α] (enc : α → Value) (w : World) (blk off m : Nat) (dk : Array α) (os : Array Obj) : w.grownBy (sortWorld enc w blk off m dk os) (some blk) :=
  ⟨rfl, rfl, rfl, sw_size enc w blk off m dk os, fun k hk hne => sw_block enc w blk off m dk os hk (fun e => hne (by rw [e]))⟩
theorem stable_list (zs : List Int) (hn : 0 < zs.length) (L : List Int) (hL : ∀ x ∈ L, 0 ≤ x ∧ x < zs.length) (h20 : L.length < 20) : StableC zs L (stS zs hn L) := by
  letI : Inhabited (Idx zs.length) := ⟨⟨0, hn⟩⟩
  intro bm blk cap pv W hm hv hne hpv hcells hblk
  have hds : (dI zs hn L).size = L.length := by simp [dI]
  have hdj : ∀ j, j < L.length → encI (dI zs hn L)[j]! = intF L j := fun j hj => by
    have h1 := hL L[j] (List.getElem_mem hj)
    have h2 : L[j].toNat < zs.length := by omega
    have h3 : ((L[j].toNat : Nat) : Int) = L[j] := by omega
    rw [getElem!_pos _ j (by rw [hds]; exact hj)]
    simp [dI, mkIdx, h2, encI, intF, hj, h3]
  have hH : Holds encI W blk 0 (dI zs hn L) := fun j hj => by
    rw [hds] at hj
    rw [Nat.zero_add, hdj j hj]
    exact hcells j hj
  have hc := sortStable_small zs hn bm blk 0 cap pv (dI zs hn L) W hm hv hne hpv hblk hH (by omega)
  rw [hds] at hc
  refine hc.mono fun e w' ⟨he, hs⟩ => ⟨he, ?_, ?_⟩
  · obtain ⟨n, os, rfl⟩ := hs
    exact sw_grown _ _ _ _ _ _ _
  · have hp := (insertionSort_holds (lt := ltOf (cfI zs)) (swo_cfI zs) (dI zs hn L) 0 L.length (by omega) (by omega)).1
    have hHs := hs.holds hblk hH hp.1
    intro j hj
    have hj2 : j < (Sort.insertionSort (ltOf (cfI zs)) (dI zs hn L) 0 L.length).size := by simpa [stS] using hj
    have h1 := (hHs j hj2).1
    rw [Nat.zero_add] at h1
    rw [h1, getElem!_pos _ j hj2]
    simp [stS, intF, encI, hj2]

/-- SortFunc of parts, in lists -/
theorem sortParts_list (g cap : Nat) (ps : List (Int × Int)) (w : World) (hg : g < w.heap.size) (hf : ∀ i, i < ps.length * 2 → w.frozen? ⟨g, i, none⟩ = false) (hc : ∀ i, i < ps.length * 2 → w.cell? ⟨g, i, none⟩ = some (spanF ps i)) (hsz : ps.length < 4611686018427387904) :
    Calls Tryz.prog 86 #[.slice (some ⟨g, 0, none⟩) ps.length cap, .func (.func 87) #[] #[]] w fun e w' => e = .returned (.tuple #[]) ∧ w.grownBy w' (some g) ∧ ∃ qs : List (Int × Int), qs.Perm ps ∧ qs.Pairwise (fun x y => x.1 ≤ y.1) ∧ ∀ i, i < ps.length * 2 → w'.cell? ⟨g, i, none⟩ = some (spanF qs i) := by
  have hsp : ∀ (qs : List (Int × Int)) i, i < qs.length * 2 → (flatK encP 2 qs.toArray)[i]! = spanF qs i := fun qs i hi => by
    rw [get_flatK _ _ _ _ (by simpa using hi)]
    have h2 : i / 2 < qs.length := by omega
    have h3 : i % 2 < 2 := Nat.mod_lt _ (by omega)
    rcases Nat.mod_two_eq_zero_or_one i with h | h
    · simp [encP, spanF, h, h2]
    · simp [encP, spanF, h, h2]
  have hH : HoldsK encP 2 w g 0 ps.toArray := fun j hj => by
    have hj' : j < ps.length * 2 := by simpa using hj
    rw [Nat.zero_add, hsp ps j hj']
    exact ⟨hc j hj', hf j hj'⟩
  have hcon := sortParts_any g 0 cap ps.toArray w hH hg (by simpa using hsz)
  simp only [List.size_toArray] at hcon
  refine hcon.mono fun e w' ⟨he, d', n, os, hp, hs, hw⟩ => ⟨he, ?_, d'.toList, ?_, ?_, ?_⟩
  · rw [hw]; exact sw_grown id w g 0 n (flatK encP 2 d') os
  · have := hp.2.2
    simpa [Array.extract_eq_self_of_le, hp.1] using this
  · rw [List.pairwise_iff_getElem]
    intro i j hi hj hij
    have hz : d'.size = ps.length := by simpa using hp.1
    have h1 := hs i j (Nat.zero_le _) hij (by simpa [hz] using hj)
    rw [ltOf_cfP] at h1
    simp only [decide_eq_false_iff_not] at h1
    rw [getElem!_pos _ i (by simpa using hi), getElem!_pos _ j (by simpa using hj)] at h1
    simpa using h1
  · intro i hi
    have hz : d'.size = ps.length := by simpa using hp.1
    have hHs : HoldsK encP 2 w' g 0 d' := by rw [hw]; exact holds_sortWorld id w g 0 n _ _ os hg hH (by simp [hz])
    have h1 := (hHs i (by simpa [hz] using hi)).1
    rw [Nat.zero_add] at h1
    rw [h1]
    have := hsp d'.toList i (by simpa [hz] using hi)
    simpa using this
end Go.Proofs.YtmglbegbijofkaaGreatDoor
