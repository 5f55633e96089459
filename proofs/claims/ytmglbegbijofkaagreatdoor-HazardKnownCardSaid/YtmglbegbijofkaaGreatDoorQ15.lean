import Derived.Lib.IndexBytes
import Derived.Lib.IndexMore
set_option linter.unusedVariables false
set_option linter.unusedSimpArgs false
/- Plain: the words of a string, between single spaces. -/
namespace Go.Proofs.YtmglbegbijofkaaGreatDoor
def wordsL : List UInt8 → List (List UInt8)
  | [] => [[]]
  | c :: l => if c = 32 then [] :: wordsL l else match wordsL l with
    | [] => [[c]]
    | w :: ws => (c :: w) :: ws
theorem cut_nil : Lib.cut [] [32] = ([], [], false) := by decide
theorem index1_cons (c : UInt8) (l : List UInt8) : Lib.index (c :: l) [32] = if c = 32 then 0 else if Lib.index l [32] = -1 then -1 else Lib.index l [32] + 1 := by
  rw [Lib.index_one, Lib.index_one]
  simp [Lib.indexByte]
theorem cut_sp (l : List UInt8) : Lib.cut (32 :: l) [32] = ([], l, true) := by
  simp [Lib.cut, index1_cons]
theorem cut_other (c : UInt8) (l : List UInt8) (h : c ≠ 32) : Lib.cut (c :: l) [32] = (c :: (Lib.cut l [32]).1, (Lib.cut l [32]).2.1, (Lib.cut l [32]).2.2) := by
  have hge := Lib.index_ge l [32]
  unfold Lib.cut
  rw [index1_cons, if_neg h]
  by_cases h1 : Lib.index l [32] = -1
  · simp [h1]
  · obtain ⟨i, hi⟩ : ∃ i : Nat, Lib.index l [32] = i := ⟨(Lib.index l [32]).toNat, by omega⟩
    have h2 : (0 : Int) ≤ (i : Int) + 1 := by omega
    have h3 : ((i : Int) + 1).toNat = i + 1 := by omega
    have h4 : ¬ ((i : Int) = -1) := by omega
    rw [hi, if_neg h4, if_pos h2, if_pos (by omega), h3]
    simp
theorem wordsL_cut (l : List UInt8) : wordsL l = (Lib.cut l [32]).1 :: (if (Lib.cut l [32]).2.2 then wordsL (Lib.cut l [32]).2.1 else []) := by
  induction l with
  | nil => simp [wordsL, cut_nil]
  | cons c l ih =>
    by_cases h : c = 32
    · subst h; simp [wordsL, cut_sp]
    · rw [cut_other c l h]; simp only [wordsL, if_neg h]; rw [ih]
theorem cut_len (l : List UInt8) (h : (Lib.cut l [32]).2.2 = true) : (Lib.cut l [32]).2.1.length < l.length := by
  induction l with
  | nil => rw [cut_nil] at h; cases h
  | cons c l ih =>
    by_cases hc : c = 32
    · subst hc; simp [cut_sp]
    · rw [cut_other c l hc] at h ⊢; have := ih h; simp; omega
theorem wordsL_len (l : List UInt8) : (wordsL l).length ≤ l.length + 1 := by
  induction l with
  | nil => simp [wordsL]
  | cons c l ih =>
    by_cases h : c = 32
    · subst h; simp [wordsL]; omega
    · simp only [wordsL, if_neg h]
      cases hw : wordsL l with
      | nil => simp
      | cons a as => rw [hw] at ih; simp at *; omega
theorem wordsL_ne (l : List UInt8) : wordsL l ≠ [] := by
  rw [wordsL_cut]; simp
end Go.Proofs.YtmglbegbijofkaaGreatDoor
