/- Plain: how Most gives away the parts. -/
import Derived.Test.YtmglbegbijofkaaGreatDoorPl10
namespace Go.Proofs.YtmglbegbijofkaaGreatDoor
def gvStep (zs : List Int) (cap : Int) (st : List (Int × Int) × Int × Int) (c : Int) : List (Int × Int) × Int × Int :=
  if 0 < min st.2.1 cap then (st.1 ++ [(c, min st.2.1 cap)], st.2.1 - min st.2.1 cap, zs.getD c.toNat 0) else (st.1, st.2.1 - min st.2.1 cap, st.2.2)
def gv (zs : List Int) (cap : Int) (S : List Int) : List (Int × Int) × Int × Int := S.foldl (gvStep zs cap) ([], 1000000, 0)
theorem gv_nil (zs : List Int) (cap : Int) : gv zs cap [] = ([], 1000000, 0) := rfl
theorem gv_snoc (zs : List Int) (cap : Int) (S : List Int) (c : Int) : gv zs cap (S ++ [c]) = gvStep zs cap (gv zs cap S) c := by simp [gv]
structure GvOK (zs : List Int) (k : Nat) (st : List (Int × Int) × Int × Int) : Prop where
  l0 : 0 ≤ st.2.1
  l1 : st.2.1 ≤ 1000000
  len : st.1.length ≤ k
  parts : PartsOK zs st.1
  p0 : 0 ≤ st.2.2
  p1 : st.2.2 ≤ 1000000
theorem gvStep_ok {zs : List Int} (hz : ∀ z ∈ zs, 0 ≤ z ∧ z ≤ 1000000) {cap : Int} (h1 : 1 ≤ cap) {k : Nat} {st : List (Int × Int) × Int × Int} (h : GvOK zs k st) {c : Int} (hc : 0 ≤ c ∧ c < zs.length) : GvOK zs (k + 1) (gvStep zs cap st c) := by
  obtain ⟨a, b, d, e, f, g⟩ := h
  unfold gvStep
  split
  · refine ⟨by simp only; omega, by simp only; omega, by simp; omega, fun p hp => ?_, ?_, ?_⟩
    · simp only [List.mem_append, List.mem_singleton] at hp
      rcases hp with hp | rfl
      · exact e p hp
      · exact ⟨hc.1, hc.2, by simp only; omega, by simp only; omega⟩
    · have hl : c.toNat < zs.length := by omega
      have := hz zs[c.toNat] (List.getElem_mem hl)
      simp only; rw [List.getD_eq_getElem?_getD, List.getElem?_eq_getElem hl]; exact this.1
    · have hl : c.toNat < zs.length := by omega
      have := hz zs[c.toNat] (List.getElem_mem hl)
      simp only; rw [List.getD_eq_getElem?_getD, List.getElem?_eq_getElem hl]; exact this.2
  · exact ⟨by simp only; omega, by simp only; omega, by simp only; omega, e, f, g⟩
theorem gv_ok {zs : List Int} (hz : ∀ z ∈ zs, 0 ≤ z ∧ z ≤ 1000000) {cap : Int} (h1 : 1 ≤ cap) (S : List Int) (hS : ∀ c ∈ S, 0 ≤ c ∧ c < (zs.length : Int)) : ∀ k, k ≤ S.length → GvOK zs k (gv zs cap (S.take k))
  | 0, _ => by simp only [List.take_zero, gv_nil]; exact ⟨by simp, by simp, by simp, fun p hp => by simp at hp, by simp, by simp⟩
  | k + 1, hk => by
    rw [List.take_succ_eq_append_getElem (by omega), gv_snoc]
    exact gvStep_ok hz h1 (gv_ok hz h1 S hS k (by omega)) (hS _ (List.getElem_mem _))
theorem fold_ne (zs : List Int) (cap : Int) : ∀ (S : List Int) (st : List (Int × Int) × Int × Int), st.1 ≠ [] → (S.foldl (gvStep zs cap) st).1 ≠ []
  | [], st, h => h
  | c :: S, st, h => by
    rw [List.foldl_cons]
    refine fold_ne zs cap S _ ?_
    unfold gvStep; split
    · simp
    · exact h
theorem gv_ne (zs : List Int) (cap : Int) (h1 : 1 ≤ cap) (S : List Int) (hS : S ≠ []) : (gv zs cap S).1 ≠ [] := by
  cases S with
  | nil => exact absurd rfl hS
  | cons c S =>
    unfold gv
    rw [List.foldl_cons]
    refine fold_ne zs cap S _ ?_
    unfold gvStep
    rw [if_pos (by simp only; omega)]
    simp
theorem ppl_perm (zs : List Int) {a b : List (Int × Int)} (h : a.Perm b) : ppl zs a = ppl zs b := by
  induction h with
  | nil => rfl
  | cons x _ ih => simp only [ppl, List.map_cons, List.sum_cons] at *; omega
  | swap x y l => simp only [ppl, List.map_cons, List.sum_cons] at *; omega
  | trans _ _ ih1 ih2 => exact ih1.trans ih2
theorem partsOK_perm {zs : List Int} {a b : List (Int × Int)} (h : a.Perm b) (hb : PartsOK zs b) : PartsOK zs a := fun p hp => hb p (h.mem_iff.1 hp)
end Go.Proofs.YtmglbegbijofkaaGreatDoor
