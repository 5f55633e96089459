import Derived.Test.YtmglbegbijofkaaGreatDoorQ12
import Derived.Test.YtmglbegbijofkaaGreatDoorQ19
import Derived.Test.YtmglbegbijofkaaGreatDoorQ00
set_option linter.unusedVariables false
set_option linter.unusedSimpArgs false
namespace Go.Proofs.YtmglbegbijofkaaGreatDoor
open Go.RowKit Go.Shelf Go.Sort
/-- the stable sort's own order: more people first; of as many, the lower cell -/
def sltI (zs : List Int) (x y : Idx zs.length) : Bool := decide (zs.getD y.i 0 < zs.getD x.i 0) || (!decide (zs.getD x.i 0 < zs.getD y.i 0) && decide (x.i < y.i))
theorem sltI_iff {zs : List Int} {x y : Idx zs.length} : sltI zs x y = true ↔ zs.getD y.i 0 < zs.getD x.i 0 ∨ (¬ zs.getD x.i 0 < zs.getD y.i 0 ∧ x.i < y.i) := by
  unfold sltI
  simp only [Bool.or_eq_true, Bool.and_eq_true, Bool.not_eq_true', decide_eq_true_eq, decide_eq_false_iff_not]
theorem sltI_no {zs : List Int} {x y : Idx zs.length} : sltI zs x y = false ↔ ¬ (zs.getD y.i 0 < zs.getD x.i 0 ∨ (¬ zs.getD x.i 0 < zs.getD y.i 0 ∧ x.i < y.i)) := by
  rw [← sltI_iff]; simp
theorem stabI (zs : List Int) : Stab (ltOf (cfI zs)) (sltI zs) (fun x : Idx zs.length => x.i) := by
  refine ⟨⟨fun x => ?_, fun x y z h1 h2 => ?_, fun x y z h1 h2 => ?_⟩, fun x y h => ⟨?_, ?_⟩⟩
  · rw [sltI_no]; omega
  · rw [sltI_iff] at *; omega
  · rw [sltI_no] at *; omega
  · rw [cfI_lt, Bool.eq_iff_iff, sltI_iff, decide_eq_true_eq]
    have h' : x.i < y.i := h
    omega
  · rw [cfI_lt, Bool.eq_iff_iff, sltI_iff]
    have h' : x.i < y.i := h
    simp only [Bool.not_eq_true', decide_eq_false_iff_not]
    omega
theorem sltI_anti (zs : List Int) (x y : Idx zs.length) (h1 : sltI zs x y = false) (h2 : sltI zs y x = false) : x = y := by
  rw [sltI_no] at *
  have : x.i = y.i := by omega
  cases x; cases y; simp at this; subst this; rfl
def stL (zs : List Int) (hn : 0 < zs.length) (L : List Int) : List (Idx zs.length) := (dI zs hn L).toList.mergeSort (fun x y => !sltI zs y x)
/-- the cells in the order of the stable sort -/
def stO (zs : List Int) (hn : 0 < zs.length) (L : List Int) : List Int := (stL zs hn L).map fun x => (x.i : Int)
theorem dI_map (zs : List Int) (hn : 0 < zs.length) (L : List Int) (hL : ∀ x ∈ L, 0 ≤ x ∧ x < (zs.length : Int)) : (dI zs hn L).toList.map (fun x => (x.i : Int)) = L := by
  unfold dI
  simp only [List.map_map]
  conv => rhs; rw [← List.map_id L]
  refine List.map_congr_left fun x hx => ?_
  obtain ⟨h1, h2⟩ := hL x hx
  have h3 : x.toNat < zs.length := by omega
  simp [mkIdx, h3]
  omega
theorem stO_perm (zs : List Int) (hn : 0 < zs.length) (L : List Int) (hL : ∀ x ∈ L, 0 ≤ x ∧ x < (zs.length : Int)) : (stO zs hn L).Perm L := by
  have h := (List.mergeSort_perm (dI zs hn L).toList (fun x y => !sltI zs y x)).map (fun x => (x.i : Int))
  rw [dI_map zs hn L hL] at h
  exact h
theorem stO_sorted (zs : List Int) (hn : 0 < zs.length) (L : List Int) (hL : ∀ x ∈ L, 0 ≤ x ∧ x < (zs.length : Int)) (hA : L.Pairwise (· < ·)) : (stO zs hn L).Pairwise (ltS zs) := by
  have S := (stabI zs).swo
  have h1 : (stL zs hn L).Pairwise (fun x y => (!sltI zs y x) = true) := by
    refine List.pairwise_mergeSort ?_ ?_ _
    · intro x y z h1 h2
      simp only [Bool.not_eq_true'] at *
      exact S.ntrans _ _ _ h2 h1
    · intro x y
      cases hq : sltI zs y x with
      | false => rfl
      | true => rw [S.asymmA hq]; rfl
  have hp := stO_perm zs hn L hL
  have hnd : (stO zs hn L).Nodup := hp.nodup_iff.2 (hA.imp (fun h => by omega))
  unfold stO at hnd ⊢
  unfold List.Nodup at hnd
  rw [List.pairwise_map] at hnd ⊢
  refine (h1.and hnd).imp fun {x y} h => ?_
  obtain ⟨h2, h3⟩ := h
  simp only [Bool.not_eq_true'] at h2
  rw [sltI_no] at h2
  unfold ltS zc
  simp only [Int.toNat_natCast]
  omega
set_option maxRecDepth 100000 in
set_option maxHeartbeats 800000 in
theorem sortStable_s (zs : List Int) (hn : 0 < zs.length) (bm blk off cap : Nat) (pv : Value) (d : Array (Idx zs.length)) (w : World) (hm : w.cell? ⟨bm, 5, none⟩ = some pv) (hv : IntsAt w pv zs) (hne : bm ≠ blk) (hpv : ∀ b o m c, pv = .slice (some ⟨b, o, none⟩) m c → b ≠ blk)
    (hblk : blk < w.heap.size) (hH : @Holds (Idx zs.length) ⟨⟨0, hn⟩⟩ encI w blk off d) (hsz : d.size ≤ 1000000) (hid : ∀ i j, i < j → j < d.size → (@getElem! (Array (Idx zs.length)) Nat (Idx zs.length) _ _ ⟨⟨0, hn⟩⟩ d i).i < (@getElem! (Array (Idx zs.length)) Nat (Idx zs.length) _ _ ⟨⟨0, hn⟩⟩ d j).i) :
    Calls Tryz.prog 82 #[.slice (some ⟨blk, off, none⟩) d.size cap, .func (.func 83) #[] #[.pointer (some ⟨bm, 0, none⟩)]] w (@SymPost (Idx zs.length) ⟨⟨0, hn⟩⟩ encI w blk off (sltI zs) 0 d.size d) := by
  letI : Inhabited (Idx zs.length) := ⟨⟨0, hn⟩⟩
  have eg : ∀ args w, (callFunc 83 args).run Tryz.prog w = .ok (.enter 83 args) w := enters_of Tryz.func83 (by kernel_rfl) rfl
  have HC := Lib.hid (stable_s (cap := cap) (d0 := d) (w0 := w) ⟨fun _ => rfl, hH, hblk⟩ (stabI zs) 83 #[.pointer (some ⟨bm, 0, none⟩)] eg (cmp83 zs hn bm pv blk off d.size w hm hv hne hpv) d w rfl (SW.start hH) hsz hid)
  clear hH hv hpv hid eg
  unfold SymPost at HC
  go_enter Tryz.func82, Tryz.ntmps82
  go_wp2_with fail
  refine HC.out.mono ?_
  rintro e w1 ⟨rfl, hs1⟩
  have HS := Lib.hid hs1
  clear hs1
  go_wp2_with fail
  go_end0
  exact ⟨rfl, HS.out⟩
theorem stable_all (zs : List Int) (hn : 0 < zs.length) (L : List Int) (hL : ∀ x ∈ L, 0 ≤ x ∧ x < (zs.length : Int)) (hA : L.Pairwise (· < ·)) (hl : L.length ≤ 1000000) : StableC zs L (stO zs hn L) := by
  letI : Inhabited (Idx zs.length) := ⟨⟨0, hn⟩⟩
  intro bm blk cap pv W hm hv hne hpv hcells hblk
  have hds : (dI zs hn L).size = L.length := by simp [dI]
  have hdi : ∀ j, (hj : j < L.length) → ((dI zs hn L)[j]!.i : Int) = L[j] := fun j hj => by
    have h1 := hL L[j] (List.getElem_mem hj)
    have h2 : L[j].toNat < zs.length := by omega
    rw [getElem!_pos _ j (by rw [hds]; exact hj)]
    simp [dI, mkIdx, h2]
    omega
  have hdj : ∀ j, j < L.length → encI (dI zs hn L)[j]! = intF L j := fun j hj => by
    have := hdi j hj
    unfold encI intF
    rw [this]; simp [hj]
  have hH : Holds encI W blk 0 (dI zs hn L) := fun j hj => by
    rw [hds] at hj
    rw [Nat.zero_add, hdj j hj]
    exact hcells j hj
  have hc := sortStable_s zs hn bm blk 0 cap pv (dI zs hn L) W hm hv hne hpv hblk hH (by omega) (fun i j hij hj => by
    rw [hds] at hj
    have h1 := hdi i (by omega)
    have h2 := hdi j hj
    have h3 := (List.pairwise_iff_getElem.1 hA) i j (by omega) hj hij
    show (dI zs hn L)[i]!.i < (dI zs hn L)[j]!.i
    omega)
  rw [hds] at hc
  refine hc.mono fun e w' ⟨he, d', hsrt, hper, hsw⟩ => ⟨he, ?_, ?_⟩
  · obtain ⟨n, os, rfl⟩ := hsw
    exact sw_grown _ _ _ _ _ _ _
  · have hu := sorted_unique_holds (stabI zs).swo (sltI_anti zs) (dI zs hn L) d' (by rw [hds]; exact hper) (by rw [hds]; exact hsrt)
    have hHs := hsw.holds hblk hH hper.1
    have hS : stO zs hn L = d'.toList.map fun x => (x.i : Int) := by unfold stO stL; rw [hu]
    intro j hj
    have hj2 : j < d'.size := by rw [hS] at hj; simpa using hj
    have h1 := (hHs j hj2).1
    rw [Nat.zero_add] at h1
    rw [h1, getElem!_pos _ j hj2, hS]
    simp [intF, encI, hj2]
end Go.Proofs.YtmglbegbijofkaaGreatDoor
