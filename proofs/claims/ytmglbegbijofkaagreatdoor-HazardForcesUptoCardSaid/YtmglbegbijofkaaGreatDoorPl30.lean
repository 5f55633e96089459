/- Plain: ref.force and ref.put: a list with a notice, by the numbers. -/
import Derived.Test.YtmglbegbijofkaaGreatDoorPl29
set_option linter.unusedVariables false
set_option linter.unusedSimpArgs false
namespace Go.Proofs.YtmglbegbijofkaaGreatDoor
def PutI (x : NT) (P O : List NT) (d : Bool) : Prop := (d = false ∧ O = P ∧ ∀ z ∈ P, z.n < x.n) ∨ (d = true ∧ O = putN x P ∧ ∃ z ∈ P, x.n < z.n)
theorem putI_nil (x : NT) : PutI x [] [] false := .inl ⟨rfl, rfl, fun z hz => by cases hz⟩
theorem putI_lt {x y : NT} {P O : List NT} (h : PutI x P O false) (hn : y.n ≠ x.n) (hl : ¬ x.n < y.n) : PutI x (P ++ [y]) (O ++ [y]) false := by
  rcases h with ⟨_, rfl, h⟩ | ⟨h, _⟩
  · refine .inl ⟨rfl, rfl, fun z hz => ?_⟩
    rcases List.mem_append.1 hz with h1 | h1
    · exact h z h1
    · simp at h1; subst h1; omega
  · cases h
theorem putN_snoc_lt {x y : NT} {P : List NT} (h : x.n < y.n) : putN x (P ++ [y]) = putN x P ++ [y] := by
  unfold putN
  rw [List.filter_append, List.filter_append]
  have h1 : [y].filter (fun y => decide (y.n < x.n)) = [] := by simp; omega
  have h2 : [y].filter (fun y => decide (x.n < y.n)) = [y] := by simp; omega
  rw [h1, h2, List.append_nil]
  simp
theorem putN_low {x : NT} {P : List NT} (h : ∀ z ∈ P, z.n < x.n) : putN x P = P ++ [x] := by
  unfold putN
  rw [List.filter_eq_self.2 (fun z hz => by simpa using h z hz), List.filter_eq_nil_iff.2 (fun z hz => by have := h z hz; simp; omega)]
theorem putI_gt {x y : NT} {P O : List NT} (h : PutI x P O false) (hl : x.n < y.n) : PutI x (P ++ [y]) (O ++ [x] ++ [y]) true := by
  rcases h with ⟨_, rfl, h⟩ | ⟨h, _⟩
  · exact .inr ⟨rfl, by rw [putN_snoc_lt hl, putN_low h], y, by simp, hl⟩
  · cases h
theorem putI_done {x y : NT} {P O : List NT} (h : PutI x P O true) (ha : (P ++ [y]).Pairwise fun x y => x.n < y.n) : PutI x (P ++ [y]) (O ++ [y]) true := by
  rcases h with ⟨h, _⟩ | ⟨_, rfl, z, hz, hl⟩
  · cases h
  · have h1 := (List.pairwise_append.1 ha).2.2 z hz y (by simp)
    exact .inr ⟨rfl, (putN_snoc_lt (by omega)).symm, z, by simp [hz], hl⟩
theorem putI_true_lt {x y : NT} {P O : List NT} (h : PutI x P O true) (ha : (P ++ [y]).Pairwise fun x y => x.n < y.n) : x.n < y.n := by
  rcases h with ⟨h, _⟩ | ⟨_, rfl, z, hz, hl⟩
  · cases h
  · have h1 := (List.pairwise_append.1 ha).2.2 z hz y (by simp)
    omega
theorem putI_end {x : NT} {L O : List NT} {d : Bool} (h : PutI x L O d) : (if d then O else O ++ [x]) = putN x L := by
  rcases h with ⟨rfl, rfl, h⟩ | ⟨rfl, rfl, _⟩
  · exact (putN_low h).symm
  · rfl
theorem putI_len {x : NT} {L O : List NT} {d : Bool} (h : PutI x L O d) : O.length ≤ L.length + 1 := by
  rcases h with ⟨rfl, rfl, h⟩ | ⟨rfl, rfl, _⟩
  · omega
  · unfold putN
    have h1 := List.length_filter_le (fun y : NT => decide (y.n < x.n)) L
    have h2 : ∀ L : List NT, (L.filter (fun y => decide (y.n < x.n))).length + (L.filter (fun y => decide (x.n < y.n))).length ≤ L.length := fun L => by
      induction L with
      | nil => simp
      | cons a L ih =>
        rw [List.filter_cons, List.filter_cons]
        by_cases c1 : a.n < x.n
        · rw [if_pos (by simpa using c1), if_neg (by simp; omega)]; simp; omega
        · by_cases c2 : x.n < a.n
          · rw [if_neg (by simpa using c1), if_pos (by simpa using c2)]; simp; omega
          · rw [if_neg (by simpa using c1), if_neg (by simpa using c2)]; simp; omega
    have h3 := h2 L
    simp; omega
theorem putN_drop (x : NT) (L : List NT) : putN x (dropN x.n L) = putN x L := by
  unfold putN dropN
  rw [List.filter_filter, List.filter_filter]
  congr 1
  · exact List.filter_congr fun y _ => by
      by_cases h : y.n < x.n
      · simp [h]; omega
      · simp [h]
  · congr 1
    exact List.filter_congr fun y _ => by
      by_cases h : x.n < y.n
      · simp [h]; omega
      · simp [h]
theorem putN_len (x : NT) (L : List NT) : (putN x L).length ≤ L.length + 1 := by
  have h2 : ∀ L : List NT, (L.filter (fun y => decide (y.n < x.n))).length + (L.filter (fun y => decide (x.n < y.n))).length ≤ L.length := fun L => by
    induction L with
    | nil => simp
    | cons a L ih =>
      rw [List.filter_cons, List.filter_cons]
      by_cases c1 : a.n < x.n
      · rw [if_pos (by simpa using c1), if_neg (by simp; omega)]; simp; omega
      · by_cases c2 : x.n < a.n
        · rw [if_neg (by simpa using c1), if_pos (by simpa using c2)]; simp; omega
        · rw [if_neg (by simpa using c1), if_neg (by simpa using c2)]; simp; omega
  have h3 := h2 L
  unfold putN
  simp; omega
theorem dropN_snoc_eq {n : Int} {y : NT} {P : List NT} (h : y.n = n) : dropN n (P ++ [y]) = dropN n P := by
  unfold dropN
  rw [List.filter_append]
  have : [y].filter (fun x => x.n != n) = [] := by simp [h]
  rw [this, List.append_nil]
theorem dropN_snoc_ne {n : Int} {y : NT} {P : List NT} (h : ¬ y.n = n) : dropN n (P ++ [y]) = dropN n P ++ [y] := by
  unfold dropN
  rw [List.filter_append]
  have : [y].filter (fun x => x.n != n) = [y] := by simp [h]
  rw [this]
theorem any_snoc_eq {n : Int} {y : NT} {P : List NT} (h : y.n = n) : ((P ++ [y]).any fun x => x.n == n) = true := by simp [h]
theorem any_snoc_ne {n : Int} {y : NT} {P : List NT} (h : ¬ y.n = n) : ((P ++ [y]).any fun x => x.n == n) = P.any fun x => x.n == n := by simp [h]
theorem dropN_len (n : Int) (L : List NT) : (dropN n L).length ≤ L.length := List.length_filter_le _ _
theorem dropN_asc {n : Int} {L : List NT} (h : L.Pairwise fun x y => x.n < y.n) : (dropN n L).Pairwise fun x y => x.n < y.n := h.filter _
theorem dropN_ne {n : Int} {L : List NT} {z : NT} (h : z ∈ dropN n L) : z.n ≠ n := by
  unfold dropN at h
  simpa using (List.mem_filter.1 h).2
/-- a notice is in force at a tick -/
def tickB (t : Int) (x : NT) : Bool := decide (x.f ≤ t) && decide (t ≤ x.u)
def fcE (ss : List (List UInt8)) (t : Int) : Int := if forceE ss ≠ 0 then forceE ss else if outB t 0 100000 then 7 else 0
def fcL (ss : List (List UInt8)) (t : Int) : List NT := if fcE ss t = 0 then (forceL ss).filter (tickB t) else []
theorem filter_snoc {p : NT → Bool} {P : List NT} {y : NT} : (P ++ [y]).filter p = P.filter p ++ (if p y then [y] else []) := by
  rw [List.filter_append, List.filter_cons, List.filter_nil]
theorem filter_take_succ {p : NT → Bool} {L : List NT} {k : Nat} (h : k < L.length) : (L.take (k + 1)).filter p = (L.take k).filter p ++ (if p L[k] then [L[k]] else []) := by
  rw [List.take_succ_eq_append_getElem h, filter_snoc]
end Go.Proofs.YtmglbegbijofkaaGreatDoor
