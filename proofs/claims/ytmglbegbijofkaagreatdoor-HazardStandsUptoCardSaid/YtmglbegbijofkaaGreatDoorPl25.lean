/- Plain: the words of a string, letter by letter. -/
import Derived.Test.YtmglbegbijofkaaGreatDoorPl19
set_option linter.unusedVariables false
set_option linter.unusedSimpArgs false
namespace Go.Proofs.YtmglbegbijofkaaGreatDoor
theorem words_cons_ne {c : UInt8} {s a : List UInt8} {l : List (List UInt8)} (h : c ≠ 32) (hw : wordsL s = a :: l) : wordsL (c :: s) = (c :: a) :: l := by
  simp only [wordsL, if_neg h]
  rw [hw]
theorem words_cons_sp (s : List UInt8) : wordsL (32 :: s) = [] :: wordsL s := by simp [wordsL]
theorem words_snoc_sp : ∀ (l : List UInt8), wordsL (l ++ [32]) = wordsL l ++ [[]]
  | [] => by simp [wordsL]
  | c :: l => by
    have ih := words_snoc_sp l
    by_cases h : c = 32
    · subst h
      rw [List.cons_append, words_cons_sp, words_cons_sp, ih]; rfl
    · cases hw : wordsL l with
      | nil => exact absurd hw (wordsL_ne l)
      | cons a t =>
        rw [hw] at ih
        rw [List.cons_append, words_cons_ne h hw, words_cons_ne h (a := a) (l := t ++ [[]]) (by rw [ih]; rfl)]; rfl
theorem words_snoc_ch {c : UInt8} (hc : c ≠ 32) : ∀ (l : List UInt8) (O : List (List UInt8)) (W : List UInt8), wordsL l = O ++ [W] → wordsL (l ++ [c]) = O ++ [W ++ [c]]
  | [], O, W, h => by
    have h0 : wordsL [] = [[]] := by simp [wordsL]
    rw [h0] at h
    cases O with
    | nil =>
      simp only [List.nil_append, List.cons.injEq, and_true] at h
      subst h
      rw [List.nil_append, words_cons_ne hc h0]; rfl
    | cons x O => simp at h
  | x :: l, O, W, h => by
    by_cases hx : x = 32
    · subst hx
      rw [words_cons_sp] at h
      cases O with
      | nil =>
        simp only [List.nil_append, List.cons.injEq] at h
        exact absurd h.2 (wordsL_ne l)
      | cons y O =>
        simp only [List.cons_append, List.cons.injEq] at h
        rw [List.cons_append, words_cons_sp, words_snoc_ch hc l O W h.2, ← h.1]; rfl
    · cases hw : wordsL l with
      | nil => exact absurd hw (wordsL_ne l)
      | cons a t =>
        rw [words_cons_ne hx hw] at h
        cases O with
        | nil =>
          simp only [List.nil_append, List.cons.injEq] at h
          obtain ⟨rfl, rfl⟩ := h
          have ih := words_snoc_ch hc l [] a hw
          rw [List.cons_append, words_cons_ne hx ih]; rfl
        | cons y O =>
          simp only [List.cons_append, List.cons.injEq] at h
          obtain ⟨rfl, rfl⟩ := h
          have ih := words_snoc_ch hc l (a :: O) W hw
          rw [List.cons_append, words_cons_ne hx (a := a) (l := O ++ [W ++ [c]]) (by rw [ih]; rfl)]; rfl
theorem words_len (s : List UInt8) : (wordsL s).length ≤ s.length + 1 := by
  induction s with
  | nil => simp [wordsL]
  | cons c s ih =>
    by_cases h : c = 32
    · subst h; rw [words_cons_sp]; simp; omega
    · cases hw : wordsL s with
      | nil => exact absurd hw (wordsL_ne s)
      | cons a t => rw [hw] at ih; rw [words_cons_ne h hw]; simp at ih ⊢; omega
end Go.Proofs.YtmglbegbijofkaaGreatDoor
