/- Plain: words, digits, what a string says as a line and what a line is written as. -/
import Derived.Lib.IndexBytes
import Derived.Lib.IndexMore
import Derived.Lib.Atoi
import Derived.Lib.ItoaNum
import Derived.Lib.Join
import Derived.Lib.SlTrimSet
set_option linter.unusedVariables false
set_option linter.unusedSimpArgs false
namespace Go.Proofs.YtkjajpfgdjfcoaaGreatDoor
def wordsL : List UInt8 → List (List UInt8)
  | [] => [[]]
  | c :: l => if c = 32 then [] :: wordsL l else match wordsL l with
    | [] => [[c]]
    | w :: ws => (c :: w) :: ws
theorem cut_nil : Lib.cut [] [32] = ([], [], false) := by decide
theorem index1_cons (c : UInt8) (l : List UInt8) : Lib.index (c :: l) [32] = if c = 32 then 0 else if Lib.index l [32] = -1 then -1 else Lib.index l [32] + 1 := by
  rw [Lib.index_one, Lib.index_one]
  simp [Lib.indexByte]
theorem cut_sp (l : List UInt8) : Lib.cut (32 :: l) [32] = ([], l, true) := by
  simp [Lib.cut, index1_cons]
theorem cut_other (c : UInt8) (l : List UInt8) (h : c ≠ 32) : Lib.cut (c :: l) [32] = (c :: (Lib.cut l [32]).1, (Lib.cut l [32]).2.1, (Lib.cut l [32]).2.2) := by
  have hge := Lib.index_ge l [32]
  unfold Lib.cut
  rw [index1_cons, if_neg h]
  by_cases h1 : Lib.index l [32] = -1
  · simp [h1]
  · obtain ⟨i, hi⟩ : ∃ i : Nat, Lib.index l [32] = i := ⟨(Lib.index l [32]).toNat, by omega⟩
    have h2 : (0 : Int) ≤ (i : Int) + 1 := by omega
    have h3 : ((i : Int) + 1).toNat = i + 1 := by omega
    have h4 : ¬ ((i : Int) = -1) := by omega
    rw [hi, if_neg h4, if_pos h2, if_pos (by omega), h3]
    simp
theorem wordsL_cut (l : List UInt8) : wordsL l = (Lib.cut l [32]).1 :: (if (Lib.cut l [32]).2.2 then wordsL (Lib.cut l [32]).2.1 else []) := by
  induction l with
  | nil => simp [wordsL, cut_nil]
  | cons c l ih =>
    by_cases h : c = 32
    · subst h; simp [wordsL, cut_sp]
    · rw [cut_other c l h]; simp only [wordsL, if_neg h]; rw [ih]
theorem cut_len (l : List UInt8) (h : (Lib.cut l [32]).2.2 = true) : (Lib.cut l [32]).2.1.length < l.length := by
  induction l with
  | nil => rw [cut_nil] at h; cases h
  | cons c l ih =>
    by_cases hc : c = 32
    · subst hc; simp [cut_sp]
    · rw [cut_other c l hc] at h ⊢; have := ih h; simp; omega
theorem cut_le (l : List UInt8) : (Lib.cut l [32]).2.1.length ≤ l.length := by
  induction l with
  | nil => rw [cut_nil]; simp
  | cons c l ih =>
    by_cases hc : c = 32
    · subst hc; simp [cut_sp]
    · rw [cut_other c l hc]; simp; omega
theorem wordsL_len (l : List UInt8) : (wordsL l).length ≤ l.length + 1 := by
  induction l with
  | nil => simp [wordsL]
  | cons c l ih =>
    by_cases h : c = 32
    · subst h; simp [wordsL]; omega
    · simp only [wordsL, if_neg h]
      cases hw : wordsL l with
      | nil => simp
      | cons a as => rw [hw] at ih; simp at *; omega
theorem wordsL_ne (l : List UInt8) : wordsL l ≠ [] := by
  rw [wordsL_cut]; simp
def digB (c : UInt8) : Bool := decide (48 ≤ c.toNat) && decide (c.toNat ≤ 57)
def valF (acc : Nat) (l : List UInt8) : Nat := l.foldl (fun n c => n * 10 + (c.toNat - 48)) acc
def valD (l : List UInt8) : Nat := valF 0 l
theorem digB_iff {c : UInt8} : digB c = true ↔ 48 ≤ c.toNat ∧ c.toNat ≤ 57 := by unfold digB; simp
theorem valF_snoc (acc : Nat) (l : List UInt8) (c : UInt8) : valF acc (l ++ [c]) = valF acc l * 10 + (c.toNat - 48) := by simp [valF]
theorem valD_snoc (l : List UInt8) (c : UInt8) : valD (l ++ [c]) = valD l * 10 + (c.toNat - 48) := valF_snoc 0 l c
theorem decFrom_val : ∀ (l : List UInt8) (acc : Nat), l.all digB = true → Lib.decFrom acc l = some (valF acc l)
  | [], acc, _ => rfl
  | c :: l, acc, h => by
    simp only [List.all_cons, Bool.and_eq_true] at h
    have hc := digB_iff.1 h.1
    unfold Lib.decFrom Lib.digitVal
    rw [if_pos ⟨hc.1, hc.2⟩]
    exact decFrom_val l _ h.2
theorem atoi_val (l : List UInt8) (h : l.all digB = true) (hne : l ≠ []) : Lib.atoi l = some (valD l : Int) := by
  cases l with
  | nil => exact absurd rfl hne
  | cons c l =>
    have h2 := h
    simp only [List.all_cons, Bool.and_eq_true] at h2
    have hc := digB_iff.1 h2.1
    have n1 : (c == 45) = false := by
      rw [beq_eq_false_iff_ne]; rintro rfl; simp at hc
    have n2 : (c == 43) = false := by
      rw [beq_eq_false_iff_ne]; rintro rfl; simp at hc
    unfold Lib.atoi Lib.decNat
    simp only [n1, n2, List.isEmpty_cons, Bool.false_eq_true, if_false]
    rw [decFrom_val _ _ h]
    rfl
theorem rev_ind {P : List UInt8 → Prop} (h0 : P []) (h1 : ∀ l c, P l → P (l ++ [c])) : ∀ l, P l := fun l => by
  have : ∀ r : List UInt8, P r.reverse := fun r => by
    induction r with
    | nil => exact h0
    | cons c r ih => rw [List.reverse_cons]; exact h1 _ _ ih
  have h := this l.reverse
  rwa [List.reverse_reverse] at h
theorem valD_lt (l : List UInt8) (h : l.all digB = true) : valD l < 10 ^ l.length := by
  induction l using rev_ind with
  | h0 => simp [valD, valF]
  | h1 l c ih =>
    simp only [List.all_append, Bool.and_eq_true, List.all_cons, List.all_nil, Bool.and_true] at h
    have := ih h.1
    have hc := digB_iff.1 h.2
    rw [valD_snoc, List.length_append, List.length_singleton, Nat.pow_succ]
    omega
theorem valF_ge : ∀ (l : List UInt8) (acc : Nat), acc * 10 ^ l.length ≤ valF acc l
  | [], acc => by simp [valF]
  | c :: l, acc => by
    have := valF_ge l (acc * 10 + (c.toNat - 48))
    have e : valF acc (c :: l) = valF (acc * 10 + (c.toNat - 48)) l := rfl
    rw [e, List.length_cons, Nat.pow_succ, Nat.mul_comm (10 ^ l.length) 10, ← Nat.mul_assoc]
    exact Nat.le_trans (Nat.mul_le_mul_right _ (by omega)) this
/-- no leading zero -/
theorem valD_ge (c : UInt8) (l : List UInt8) (hc : 49 ≤ c.toNat) : 10 ^ l.length ≤ valD (c :: l) := by
  have := valF_ge l (0 * 10 + (c.toNat - 48))
  have e : valD (c :: l) = valF (0 * 10 + (c.toNat - 48)) l := rfl
  rw [e]
  refine Nat.le_trans ?_ this
  have := Nat.mul_le_mul_right (10 ^ l.length) (show 1 ≤ 0 * 10 + (c.toNat - 48) by omega)
  omega
def numBad (w : List UInt8) : Bool := w.isEmpty || (decide (1 < w.length) && w.headD 0 == 48)
def dig10 : List UInt8 := [48, 49, 50, 51, 52, 53, 54, 55, 56, 57]
theorem dig10_iff (c : UInt8) : dig10.contains c = digB c := by
  have h : ∀ i : Fin 256, dig10.contains (UInt8.ofNat i.val) = digB (UInt8.ofNat i.val) := by decide +kernel
  have := h ⟨c.toNat, UInt8.toNat_lt c⟩
  simpa using this
theorem dropWhile_nil {p : UInt8 → Bool} : ∀ l : List UInt8, l.dropWhile p = [] ↔ l.all p = true
  | [] => by simp
  | c :: l => by
    rw [List.dropWhile_cons]
    cases h : p c
    · simp [h]
    · simp only [if_true, List.all_cons, h, Bool.true_and]; exact dropWhile_nil l
theorem trim_nil (w : List UInt8) : Lib.trimS w dig10 = [] ↔ w.all digB = true := by
  unfold Lib.trimS Lib.trimLeftS Lib.trimRightS
  have hf : (fun x => dig10.contains x) = digB := by funext c; exact dig10_iff c
  rw [hf, dropWhile_nil, List.all_reverse]
  constructor
  · intro h
    have h2 := dropWhile_nil (p := digB) w.reverse
    have h3 : w.reverse.dropWhile digB = [] := by
      cases hc : w.reverse.dropWhile digB with
      | nil => rfl
      | cons c l =>
        rw [hc] at h
        simp only [List.all_cons, Bool.and_eq_true] at h
        have := List.head_dropWhile_not digB (l := w.reverse) (by rw [hc]; simp)
        simp only [hc, List.head_cons] at this
        rw [this] at h; simp at h
    have := h2.1 h3
    rwa [List.all_reverse] at this
  · intro h
    have h2 := (dropWhile_nil (p := digB) w.reverse).2 (by rw [List.all_reverse]; exact h)
    rw [h2]; rfl

/-! the numeral -/
theorem decDigits_big {u : Nat} (h : ¬ u < 10) : Lib.decDigits u = Lib.decDigits (u / 10) ++ [UInt8.ofNat (48 + u % 10)] := by rw [Lib.decDigits, dif_neg h]
theorem ofNat_dig {d : Nat} (h : d < 10) : (UInt8.ofNat (48 + d)).toNat = 48 + d := by simp; omega
theorem decDigits_facts (u : Nat) : (Lib.decDigits u).all digB = true ∧ Lib.decDigits u ≠ [] ∧ valD (Lib.decDigits u) = u ∧ (1 < (Lib.decDigits u).length → (Lib.decDigits u).headD 0 ≠ 48) := by
  induction u using Nat.strongRecOn with
  | _ u ih =>
    by_cases h : u < 10
    · rw [Lib.decDigits_one h]
      have := ofNat_dig h
      refine ⟨?_, by simp, ?_, by simp⟩
      · simp [digB, this]; omega
      · simp [valD, valF]; omega
    · obtain ⟨h1, h2, h3, h4⟩ := ih (u / 10) (by omega)
      rw [decDigits_big h]
      have hd := ofNat_dig (show u % 10 < 10 by omega)
      refine ⟨?_, by simp, ?_, fun _ => ?_⟩
      · simp only [List.all_append, h1, List.all_cons, List.all_nil, Bool.and_true, Bool.true_and]
        rw [digB_iff, hd]; omega
      · rw [valD_snoc, h3, hd]; omega
      · cases hc : Lib.decDigits (u / 10) with
        | nil => exact absurd hc h2
        | cons c l =>
          simp only [List.cons_append, List.headD_cons]
          cases l with
          | nil =>
            rw [hc] at h3 h1
            rintro rfl
            simp [valD, valF] at h3
            omega
          | cons c2 l2 =>
            rw [hc] at h4
            simpa using h4 (by simp)
theorem numeral_unique (l : List UInt8) (h : l.all digB = true) (hne : l ≠ []) (hz : 1 < l.length → l.headD 0 ≠ 48) : l = Lib.decDigits (valD l) := by
  induction l using rev_ind with
  | h0 => exact absurd rfl hne
  | h1 l c ih =>
    simp only [List.all_append, Bool.and_eq_true, List.all_cons, List.all_nil, Bool.and_true] at h
    have hc := digB_iff.1 h.2
    have ec : UInt8.ofNat (48 + (c.toNat - 48)) = c := by rw [show 48 + (c.toNat - 48) = c.toNat by omega]; simp
    cases l with
    | nil =>
      rw [valD_snoc, show valD [] = 0 from rfl, Nat.zero_mul, Nat.zero_add, Lib.decDigits_one (by omega), ec]
      rfl
    | cons a l =>
      have hz2 : a ≠ 48 := by simpa using hz (by simp)
      have hih := ih h.1 (by simp) (fun _ => by simpa using hz2)
      have ha : 49 ≤ a.toNat := by
        have := h.1
        simp only [List.all_cons, Bool.and_eq_true] at this
        have h1 := digB_iff.1 this.1
        by_cases e : a.toNat = 48
        · exact absurd (UInt8.toNat_inj.1 (e.trans rfl)) hz2
        · omega
      have h10 := valD_ge a l ha
      have hp : 1 ≤ 10 ^ l.length := Nat.one_le_pow _ _ (by decide)
      rw [valD_snoc, decDigits_big (by omega)]
      rw [show (valD (a :: l) * 10 + (c.toNat - 48)) / 10 = valD (a :: l) by omega, show (valD (a :: l) * 10 + (c.toNat - 48)) % 10 = c.toNat - 48 by omega, ← hih, ec]
theorem numBad_false {w : List UInt8} : numBad w = false ↔ w ≠ [] ∧ (1 < w.length → w.headD 0 ≠ 48) := by
  unfold numBad
  cases w with
  | nil => simp
  | cons c l =>
    simp only [List.isEmpty_cons, Bool.false_or, Bool.and_eq_false_iff, decide_eq_false_iff_not, beq_eq_false_iff_ne]
    constructor
    · rintro h; refine ⟨by simp, fun h2 => ?_⟩
      rcases h with h | h
      · exact absurd h2 h
      · exact h
    · rintro ⟨_, h⟩
      by_cases h2 : 1 < (c :: l).length
      · exact Or.inr (h h2)
      · exact Or.inl h2
/-! words -/
theorem join_two (a b : List UInt8) (l : List (List UInt8)) : Lib.join (a :: b :: l) [32] = a ++ 32 :: Lib.join (b :: l) [32] := by
  simp [Lib.join, List.intercalate, List.intersperse]
theorem join_one (a : List UInt8) : Lib.join [a] [32] = a := by simp [Lib.join, List.intercalate, List.intersperse]
theorem join_words (s : List UInt8) : Lib.join (wordsL s) [32] = s := by
  induction s with
  | nil => simp [wordsL, join_one]
  | cons c s ih =>
    by_cases h : c = 32
    · subst h
      simp only [wordsL, if_true]
      cases hw : wordsL s with
      | nil => exact absurd hw (wordsL_ne s)
      | cons a l => rw [join_two, ← hw, ih]; rfl
    · simp only [wordsL, if_neg h]
      cases hw : wordsL s with
      | nil => exact absurd hw (wordsL_ne s)
      | cons a l =>
        rw [hw] at ih
        cases l with
        | nil => rw [join_one] at ih ⊢; rw [ih]
        | cons b l => rw [join_two] at ih ⊢; rw [← ih]; rfl
theorem words_noSp : ∀ (a : List UInt8) (t : List UInt8), (∀ c ∈ a, c ≠ 32) → wordsL (a ++ 32 :: t) = a :: wordsL t
  | [], t, _ => by simp [wordsL]
  | c :: a, t, h => by
    have hc : c ≠ 32 := h c (by simp)
    have ih := words_noSp a t (fun x hx => h x (by simp [hx]))
    simp only [List.cons_append, wordsL, if_neg hc]
    rw [ih]
theorem words_lone : ∀ (a : List UInt8), (∀ c ∈ a, c ≠ 32) → wordsL a = [a]
  | [], _ => by simp [wordsL]
  | c :: a, h => by
    have hc : c ≠ 32 := h c (by simp)
    have ih := words_lone a (fun x hx => h x (by simp [hx]))
    simp only [wordsL, if_neg hc]
    rw [ih]
theorem words_join : ∀ (ws : List (List UInt8)), ws ≠ [] → (∀ w ∈ ws, ∀ c ∈ w, c ≠ 32) → wordsL (Lib.join ws [32]) = ws
  | [], h, _ => absurd rfl h
  | [a], _, h => by rw [join_one]; exact words_lone a (h a (by simp))
  | a :: b :: l, _, h => by
    rw [join_two, words_noSp a _ (h a (by simp)), words_join (b :: l) (by simp) (fun w hw => h w (by simp [hw]))]
theorem digB_noSp {l : List UInt8} (h : l.all digB = true) : ∀ c ∈ l, c ≠ 32 := fun c hc => by
  have := digB_iff.1 (List.all_eq_true.1 h c hc)
  rintro rfl
  simp at this
theorem itoa_noSp (n : Int) : ∀ c ∈ Lib.itoa n, c ≠ 32 := by
  unfold Lib.itoa
  split
  · intro c hc
    rcases List.mem_cons.1 hc with rfl | hc
    · decide
    · exact digB_noSp (decDigits_facts _).1 c hc
  · exact digB_noSp (decDigits_facts _).1

theorem words_cons_ne {c : UInt8} {s a : List UInt8} {l : List (List UInt8)} (h : c ≠ 32) (hw : wordsL s = a :: l) : wordsL (c :: s) = (c :: a) :: l := by
  simp only [wordsL, if_neg h]
  rw [hw]
theorem words_cons_sp (s : List UInt8) : wordsL (32 :: s) = [] :: wordsL s := by simp [wordsL]
theorem words_snoc_sp : ∀ (l : List UInt8), wordsL (l ++ [32]) = wordsL l ++ [[]]
  | [] => by simp [wordsL]
  | c :: l => by
    have ih := words_snoc_sp l
    by_cases h : c = 32
    · subst h
      rw [List.cons_append, words_cons_sp, words_cons_sp, ih]; rfl
    · cases hw : wordsL l with
      | nil => exact absurd hw (wordsL_ne l)
      | cons a t =>
        rw [hw] at ih
        rw [List.cons_append, words_cons_ne h hw, words_cons_ne h (a := a) (l := t ++ [[]]) (by rw [ih]; rfl)]; rfl
theorem words_snoc_ch {c : UInt8} (hc : c ≠ 32) : ∀ (l : List UInt8) (O : List (List UInt8)) (W : List UInt8), wordsL l = O ++ [W] → wordsL (l ++ [c]) = O ++ [W ++ [c]]
  | [], O, W, h => by
    have h0 : wordsL [] = [[]] := by simp [wordsL]
    rw [h0] at h
    cases O with
    | nil =>
      simp only [List.nil_append, List.cons.injEq, and_true] at h
      subst h
      rw [List.nil_append, words_cons_ne hc h0]; rfl
    | cons x O => simp at h
  | x :: l, O, W, h => by
    by_cases hx : x = 32
    · subst hx
      rw [words_cons_sp] at h
      cases O with
      | nil =>
        simp only [List.nil_append, List.cons.injEq] at h
        exact absurd h.2 (wordsL_ne l)
      | cons y O =>
        simp only [List.cons_append, List.cons.injEq] at h
        rw [List.cons_append, words_cons_sp, words_snoc_ch hc l O W h.2, ← h.1]; rfl
    · cases hw : wordsL l with
      | nil => exact absurd hw (wordsL_ne l)
      | cons a t =>
        rw [words_cons_ne hx hw] at h
        cases O with
        | nil =>
          simp only [List.nil_append, List.cons.injEq] at h
          obtain ⟨rfl, rfl⟩ := h
          have ih := words_snoc_ch hc l [] a hw
          rw [List.cons_append, words_cons_ne hx ih]; rfl
        | cons y O =>
          simp only [List.cons_append, List.cons.injEq] at h
          obtain ⟨rfl, rfl⟩ := h
          have ih := words_snoc_ch hc l (a :: O) W hw
          rw [List.cons_append, words_cons_ne hx (a := a) (l := O ++ [W ++ [c]]) (by rw [ih]; rfl)]; rfl
theorem words_len (s : List UInt8) : (wordsL s).length ≤ s.length + 1 := by
  induction s with
  | nil => simp [wordsL]
  | cons c s ih =>
    by_cases h : c = 32
    · subst h; rw [words_cons_sp]; simp; omega
    · cases hw : wordsL s with
      | nil => exact absurd hw (wordsL_ne s)
      | cons a t => rw [hw] at ih; rw [words_cons_ne h hw]; simp at ih ⊢; omega
end Go.Proofs.YtkjajpfgdjfcoaaGreatDoor
namespace Go.Proofs.YtkjajpfgdjfcoaaGreatDoor
/-- the digits' value: beyond 15 digits the program takes 10^12 + 1 -/
def valO (w : List UInt8) : Int := if 15 < w.length then 1000000000001 else (valD w : Int)
def valC (w : List UInt8) : Int := min 1000000000001 (valD w : Int)
/-- a word is no number: no digits, another letter, a leading zero, minus zero -/
def noNum (m : Bool) (d : List UInt8) : Bool := numBad d || !d.all digB || (m && d == [48])
def isMinus (w : List UInt8) : Bool := w.headD 0 == 45
def unsign (w : List UInt8) : List UInt8 := if isMinus w then w.tail else w
def sgn (m : Bool) (n : Int) : Int := if m then -n else n
def numO (w : List UInt8) : Option Int := if noNum (isMinus w) (unsign w) then none else some (sgn (isMinus w) (valO (unsign w)))
def numC (w : List UInt8) : Option Int := if noNum (isMinus w) (unsign w) then none else some (sgn (isMinus w) (valC (unsign w)))
def big (n : Int) : Prop := n < -1000000000000 ∨ 1000000000000 < n
/-- the same, or both are too large -/
def near (a b : Int) : Prop := a = b ∨ (big a ∧ big b)
theorem val_near {d : List UInt8} (hb : numBad d = false) (hd : d.all digB = true) : (valO d = valC d) ∨ (1000000000000 < valO d ∧ 1000000000000 < valC d) := by
  unfold valO valC
  split
  · rename_i h15
    right
    cases d with
    | nil => simp at h15
    | cons c l =>
      have hc : 49 ≤ c.toNat := by
        have hz := (numBad_false.1 hb).2 (by omega)
        simp only [List.all_cons, Bool.and_eq_true] at hd
        have h1 := digB_iff.1 hd.1
        by_cases e : c.toNat = 48
        · exact absurd (UInt8.toNat_inj.1 (e.trans rfl)) (by simpa using hz)
        · omega
      have h1 := valD_ge c l hc
      have h2 : 10 ^ 15 ≤ 10 ^ l.length := Nat.pow_le_pow_right (by omega) (by simp at h15; omega)
      omega
  · by_cases h : (valD d : Int) ≤ 1000000000001
    · left; omega
    · right; omega
theorem num_near (w : List UInt8) : (numO w = none ∧ numC w = none) ∨ ∃ a b, numO w = some a ∧ numC w = some b ∧ near a b := by
  unfold numO numC
  by_cases h : noNum (isMinus w) (unsign w) = true
  · simp [h]
  · right
    simp only [h]
    refine ⟨_, _, rfl, rfl, ?_⟩
    simp only [noNum, Bool.or_eq_true, Bool.not_eq_true', not_or, Bool.not_eq_true, Bool.not_eq_false] at h
    rcases val_near h.1.1 h.1.2 with e | ⟨e1, e2⟩
    · left; rw [e]
    · right
      unfold sgn big
      split <;> constructor <;> omega
theorem decDigits_len {u k : Nat} (h : u < 10 ^ k) (hk : 1 ≤ k) : (Lib.decDigits u).length ≤ k := by
  obtain ⟨d1, d2, d3, d4⟩ := decDigits_facts u
  rcases Nat.lt_or_ge k (Lib.decDigits u).length with hl | hl
  · exfalso
    cases hc : Lib.decDigits u with
    | nil => exact d2 hc
    | cons c l =>
      rw [hc] at hl d1 d3 d4
      have hz := d4 (by omega)
      simp only [List.all_cons, Bool.and_eq_true] at d1
      have h1 := digB_iff.1 d1.1
      have hc49 : 49 ≤ c.toNat := by
        by_cases e : c.toNat = 48
        · exact absurd (UInt8.toNat_inj.1 (e.trans rfl)) (by simpa using hz)
        · omega
      have h3 := valD_ge c l hc49
      have h4 : 10 ^ k ≤ 10 ^ l.length := Nat.pow_le_pow_right (by omega) (by simp at hl; omega)
      omega
  · exact hl
/-- what Itoa gives for a number that is not below zero reads back -/
theorem atoi_itoa {n : Nat} (h : n < 10 ^ 18) : (⟨(Lib.itoa (n : Int)).toArray⟩ : ByteArray).size ≤ 18 ∧ Lib.atoi (⟨(Lib.itoa (n : Int)).toArray⟩ : ByteArray).data.toList = some (n : Int) := by
  have e : Lib.itoa (n : Int) = Lib.decDigits n := by unfold Lib.itoa; rw [if_neg (by omega)]; simp
  obtain ⟨d1, d2, d3, d4⟩ := decDigits_facts n
  rw [e]
  refine ⟨?_, ?_⟩
  · show (Lib.decDigits n).toArray.size ≤ 18
    rw [List.size_toArray]
    exact decDigits_len h (by omega)
  · show Lib.atoi (Lib.decDigits n).toArray.toList = _
    rw [show (Lib.decDigits n).toArray.toList = Lib.decDigits n by simp, atoi_val _ d1 d2, d3]
/-- a small number is its numeral -/
theorem itoa_of_numO {w : List UInt8} {n : Int} (h : numO w = some n) (h1 : -1000000000000 ≤ n) (h2 : n ≤ 1000000000000) : w = Lib.itoa n := by
  unfold numO at h
  split at h
  · cases h
  · rename_i hn
    simp only [noNum, Bool.or_eq_true, Bool.not_eq_true', not_or, Bool.not_eq_true, Bool.not_eq_false, Bool.and_eq_true, beq_iff_eq] at hn
    obtain ⟨⟨hb, hd⟩, hm⟩ := hn
    injection h with h
    obtain ⟨hne, hz⟩ := numBad_false.1 hb
    have hv := numeral_unique (unsign w) hd hne hz
    have hval : valO (unsign w) = (valD (unsign w) : Int) := by
      unfold valO at h ⊢
      split
      · rename_i h15
        rw [if_pos h15] at h
        unfold sgn at h
        split at h <;> omega
      · rfl
    rw [hval] at h
    unfold sgn at h
    cases hm2 : isMinus w with
    | false =>
      simp only [hm2, Bool.false_eq_true, if_false] at h
      have hu : unsign w = w := by unfold unsign; rw [hm2]; rfl
      rw [hu] at hv h
      unfold Lib.itoa
      rw [if_neg (by omega), ← h]
      simpa using hv
    | true =>
      simp only [hm2, if_true] at h
      have hu : unsign w = w.tail := by unfold unsign; rw [hm2]; rfl
      rw [hu] at hv h
      have hpos : 0 < valD w.tail := by
        rcases Nat.eq_zero_or_pos (valD w.tail) with h0 | h0
        · rw [h0, Lib.decDigits_one (by omega)] at hv
          exact absurd (by rw [hu, hv]; rfl) (fun e => hm ⟨hm2, e⟩)
        · exact h0
      cases w with
      | nil => simp [isMinus] at hm2
      | cons c l =>
        simp only [isMinus, List.headD_cons, beq_iff_eq] at hm2
        subst hm2
        simp only [List.tail_cons] at hv h hpos
        unfold Lib.itoa
        rw [if_pos (by omega), ← h, hv]
        congr 2
        rw [← hv]
        omega
theorem numO_itoa {n : Int} (h1 : -1000000000000 ≤ n) (h2 : n ≤ 1000000000000) : numO (Lib.itoa n) = some n := by
  have main : ∀ u : Nat, u ≤ 1000000000000 → noNum false (Lib.decDigits u) = false ∧ valO (Lib.decDigits u) = u ∧ isMinus (Lib.decDigits u) = false ∧ (Lib.decDigits u = [48] → u = 0) := by
    intro u hu
    obtain ⟨d1, d2, d3, d4⟩ := decDigits_facts u
    have hlen : (Lib.decDigits u).length ≤ 15 := by
      rcases Nat.lt_or_ge 15 (Lib.decDigits u).length with h | h
      · exfalso
        cases hc : Lib.decDigits u with
        | nil => exact d2 hc
        | cons c l =>
          rw [hc] at h d1 d3 d4
          have hz := d4 (by omega)
          simp only [List.all_cons, Bool.and_eq_true] at d1
          have h1 := digB_iff.1 d1.1
          have hc49 : 49 ≤ c.toNat := by
            by_cases e : c.toNat = 48
            · exact absurd (UInt8.toNat_inj.1 (e.trans rfl)) (by simpa using hz)
            · omega
          have h3 := valD_ge c l hc49
          have h4 : 10 ^ 15 ≤ 10 ^ l.length := Nat.pow_le_pow_right (by omega) (by simp at h; omega)
          omega
      · exact h
    refine ⟨?_, ?_, ?_, ?_⟩
    · simp only [noNum, numBad_false.2 ⟨d2, d4⟩, d1, Bool.false_and, Bool.or_false, Bool.not_true]
    · unfold valO
      rw [if_neg (by omega), d3]
    · cases hc : Lib.decDigits u with
      | nil => rfl
      | cons c l =>
        rw [hc] at d1
        simp only [List.all_cons, Bool.and_eq_true] at d1
        have h1 := digB_iff.1 d1.1
        simp only [isMinus, List.headD_cons, beq_eq_false_iff_ne]
        rintro rfl
        simp at h1
    · intro e
      rw [e] at d3
      simp [valD, valF] at d3
      omega
  by_cases h : n < 0
  · obtain ⟨m1, m2, m3, m4⟩ := main (-n).toNat (by omega)
    have e : Lib.itoa n = 45 :: Lib.decDigits (-n).toNat := by
      unfold Lib.itoa
      rw [if_pos h]
      congr 2
      omega
    have hm : isMinus (45 :: Lib.decDigits (-n).toNat) = true := rfl
    rw [e]
    unfold numO unsign
    rw [hm]
    simp only [if_true, List.tail_cons]
    have hn : noNum true (Lib.decDigits (-n).toNat) = false := by
      simp only [noNum, Bool.false_and, Bool.or_false] at m1
      simp only [noNum, m1, Bool.true_and, Bool.false_or, beq_eq_false_iff_ne]
      intro e2
      have := m4 e2
      omega
    rw [hn, m2]
    simp only [Bool.false_eq_true, if_false, sgn, if_true, Option.some.injEq]
    omega
  · obtain ⟨m1, m2, m3, m4⟩ := main n.toNat (by omega)
    have e : Lib.itoa n = Lib.decDigits n.toNat := by unfold Lib.itoa; rw [if_neg h]
    rw [e]
    unfold numO unsign
    rw [m3]
    simp only [Bool.false_eq_true, if_false]
    rw [m1, m2]
    simp only [Bool.false_eq_true, if_false, sgn, Option.some.injEq]
    omega
end Go.Proofs.YtkjajpfgdjfcoaaGreatDoor
namespace Go.Proofs.YtkjajpfgdjfcoaaGreatDoor
structure OL where
  at_ : Int
  verb : Nat
  name : List UInt8
  nums : List Int
  deriving DecidableEq
def wAt : List UInt8 := [97, 116]
/-- the verbs, by their numbers (number 0 is none) -/
def verbW : List (List UInt8) := [[], [115, 111, 117, 110, 100], [115, 105, 103, 104, 116], [97, 105, 109], [110, 111, 116, 105, 99, 101], [99, 97, 110, 99, 101, 108], [98, 101, 103, 105, 110], [101, 110, 100], [104, 111, 108, 100], [114, 101, 115, 117, 109, 101], [103, 111], [110, 111, 103, 111], [114, 101, 99, 121, 99, 108, 101], [99, 104, 97, 114, 103, 101], [112, 101, 114, 115, 111, 110], [112, 108, 111, 116], [99, 108, 101, 97, 114], [108, 111, 111, 107]]
def namedL : List Bool := [false, true, true, false, false, false, true, true, false, false, true, true, true, true, true, true, false, false]
def manyL : List Nat := [0, 3, 4, 0, 1, 1, 0, 0, 0, 0, 0, 0, 0, 0, 3, 3, 0, 0]
def namedB (k : Nat) : Bool := namedL.getD k false
def manyN (k : Nat) : Nat := manyL.getD k 0
def wordN (k : Nat) : List UInt8 := verbW.getD k []
/-- the first number of a verb with this word; 0: none -/
def verbOf (w : List UInt8) : Nat := if w = [] then 0 else match verbW.findIdx? (· == w) with | some k => k | none => 0
def chBad (k : Nat) (c : UInt8) : Bool := !(decide (97 ≤ c.toNat) && decide (c.toNat ≤ 122)) && (k == 0 || c.toNat != 45 && !(decide (48 ≤ c.toNat) && decide (c.toNat ≤ 57)))
def badFrom : List UInt8 → Nat → Bool
  | [], _ => false
  | c :: l, k => chBad k c || badFrom l (k + 1)
def nameB (s : List UInt8) : Bool := !badFrom s 0 && decide (1 ≤ s.length) && decide (s.length ≤ 24)
def numsOf (num : List UInt8 → Option Int) (t : Int) (k : Nat) (nm : List UInt8) (rs : List (List UInt8)) : Option OL :=
  if rs.length = manyN k then (match rs.mapM num with | some ns => some ⟨t, k, nm, ns⟩ | none => none) else none
def formO (num : List UInt8 → Option Int) (ws : List (List UInt8)) : Option OL :=
  match ws with
  | a :: t :: v :: rest =>
    if a = wAt then
      match num t with
      | some n => if verbOf v = 0 then none else
          if namedB (verbOf v) then
            match rest with
            | [] => none
            | nm :: rs => if nameB nm then numsOf num n (verbOf v) nm rs else none
          else numsOf num n (verbOf v) [] rest
      | none => none
    else none
  | _ => none
def outI (n lo hi : Int) : Bool := decide (n < lo) || decide (hi < n)
def farB (x : OL) : Bool := outI x.at_ 0 100000 || x.nums.any fun n => outI n (-1000000000000) 1000000000000
def zeroOL : OL := ⟨0, 0, [], []⟩
/-- ErrLong 3, ErrForm 6, ErrRange 7 -/
def lineE (num : List UInt8 → Option Int) (s : List UInt8) : Int := if 120 < s.length then 3 else match formO num (wordsL s) with | none => 6 | some x => if farB x then 7 else 0
def lineV (num : List UInt8 → Option Int) (s : List UInt8) : OL := if 120 < s.length then zeroOL else match formO num (wordsL s) with | none => zeroOL | some x => if farB x then zeroOL else x
/-- two lines that differ in numbers that are too large alone -/
def nears : List Int → List Int → Prop
  | [], [] => True
  | a :: as, b :: bs => near a b ∧ nears as bs
  | _, _ => False
def nearL (x y : OL) : Prop := near x.at_ y.at_ ∧ x.verb = y.verb ∧ x.name = y.name ∧ nears x.nums y.nums
theorem mapM_near : ∀ rs : List (List UInt8), (rs.mapM numO = none ∧ rs.mapM numC = none) ∨ ∃ a b, rs.mapM numO = some a ∧ rs.mapM numC = some b ∧ nears a b
  | [] => .inr ⟨[], [], rfl, rfl, trivial⟩
  | r :: rs => by
    rcases num_near r with ⟨h1, h2⟩ | ⟨a, b, h1, h2, h3⟩
    · left; simp [h1, h2]
    · rcases mapM_near rs with ⟨g1, g2⟩ | ⟨as, bs, g1, g2, g3⟩
      · left; simp [h1, h2, g1, g2]
      · right; exact ⟨a :: as, b :: bs, by simp [h1, g1], by simp [h2, g2], h3, g3⟩
theorem numsOf_near {t u : Int} (h : near t u) (k : Nat) (nm : List UInt8) (rs : List (List UInt8)) : (numsOf numO t k nm rs = none ∧ numsOf numC u k nm rs = none) ∨ ∃ x y, numsOf numO t k nm rs = some x ∧ numsOf numC u k nm rs = some y ∧ nearL x y := by
  unfold numsOf
  split
  · rcases mapM_near rs with ⟨g1, g2⟩ | ⟨as, bs, g1, g2, g3⟩
    · left; rw [g1, g2]; exact ⟨rfl, rfl⟩
    · right; rw [g1, g2]; exact ⟨_, _, rfl, rfl, h, rfl, rfl, g3⟩
  · exact .inl ⟨rfl, rfl⟩
theorem formO_near (ws : List (List UInt8)) : (formO numO ws = none ∧ formO numC ws = none) ∨ ∃ x y, formO numO ws = some x ∧ formO numC ws = some y ∧ nearL x y := by
  match ws with
  | [] => exact .inl ⟨rfl, rfl⟩
  | [_] => exact .inl ⟨rfl, rfl⟩
  | [_, _] => exact .inl ⟨rfl, rfl⟩
  | a :: t :: v :: rest =>
    simp only [formO]
    split
    · rcases num_near t with ⟨h1, h2⟩ | ⟨n, m, h1, h2, h3⟩
      · left; rw [h1, h2]; exact ⟨rfl, rfl⟩
      · rw [h1, h2]
        simp only
        split
        · exact .inl ⟨rfl, rfl⟩
        · split
          · cases rest with
            | nil => exact .inl ⟨rfl, rfl⟩
            | cons nm rs =>
              simp only
              split
              · exact numsOf_near h3 _ _ _
              · exact .inl ⟨rfl, rfl⟩
          · exact numsOf_near h3 _ _ _
    · exact .inl ⟨rfl, rfl⟩
theorem outI_false {n lo hi : Int} : outI n lo hi = false ↔ lo ≤ n ∧ n ≤ hi := by
  unfold outI
  simp only [Bool.or_eq_false_iff, decide_eq_false_iff_not]
  omega
theorem near_out {a b : Int} (h : near a b) : outI a (-1000000000000) 1000000000000 = outI b (-1000000000000) 1000000000000 ∧ (outI a (-1000000000000) 1000000000000 = false → a = b) := by
  rcases h with rfl | ⟨h1, h2⟩
  · exact ⟨rfl, fun _ => rfl⟩
  · unfold big at h1 h2
    have e1 : outI a (-1000000000000) 1000000000000 = true := by unfold outI; simp; omega
    have e2 : outI b (-1000000000000) 1000000000000 = true := by unfold outI; simp; omega
    rw [e1, e2]
    exact ⟨rfl, fun h => by cases h⟩
theorem near_at {a b : Int} (h : near a b) : outI a 0 100000 = outI b 0 100000 ∧ (outI a 0 100000 = false → a = b) := by
  rcases h with rfl | ⟨h1, h2⟩
  · exact ⟨rfl, fun _ => rfl⟩
  · unfold big at h1 h2
    have e1 : outI a 0 100000 = true := by unfold outI; simp; omega
    have e2 : outI b 0 100000 = true := by unfold outI; simp; omega
    rw [e1, e2]
    exact ⟨rfl, fun h => by cases h⟩
theorem nears_out : ∀ {as bs : List Int}, nears as bs → (as.any fun n => outI n (-1000000000000) 1000000000000) = (bs.any fun n => outI n (-1000000000000) 1000000000000) ∧ ((as.any fun n => outI n (-1000000000000) 1000000000000) = false → as = bs)
  | [], [], _ => ⟨rfl, fun _ => rfl⟩
  | [], _ :: _, h => h.elim
  | _ :: _, [], h => h.elim
  | a :: as, b :: bs, h => by
    obtain ⟨h1, h2⟩ := nears_out h.2
    obtain ⟨h3, h4⟩ := near_out h.1
    simp only [List.any_cons, h3, h1, Bool.or_eq_false_iff, true_and]
    rintro ⟨g1, g2⟩
    rw [h4 (by rw [h3]; exact g1), h2 (by rw [h1]; exact g2)]
/-- the program's reader and the document's say the same -/
theorem line_same (s : List UInt8) : lineE numO s = lineE numC s ∧ lineV numO s = lineV numC s := by
  unfold lineE lineV
  split
  · exact ⟨rfl, rfl⟩
  · rcases formO_near (wordsL s) with ⟨h1, h2⟩ | ⟨x, y, h1, h2, h3, h4, h5, h6⟩
    · rw [h1, h2]; exact ⟨rfl, rfl⟩
    · rw [h1, h2]
      simp only
      obtain ⟨g1, g2⟩ := near_at h3
      obtain ⟨g3, g4⟩ := nears_out h6
      have e : farB x = farB y := by unfold farB; rw [g1, g3]
      rw [e]
      refine ⟨rfl, ?_⟩
      split
      · rfl
      · rename_i hf
        have hfx : farB x = false := by rw [e]; simpa using hf
        unfold farB at hfx
        rw [Bool.or_eq_false_iff] at hfx
        obtain ⟨x1, x2, x3, x4⟩ := x
        obtain ⟨y1, y2, y3, y4⟩ := y
        simp only at *
        rw [g2 hfx.1, h4, h5, g4 hfx.2]
/-! how a line is written -/
def lineWords (x : OL) : List (List UInt8) := wAt :: Lib.itoa x.at_ :: wordN x.verb :: ((if namedB x.verb then [x.name] else []) ++ x.nums.map Lib.itoa)
def lineT (x : OL) : List UInt8 := Lib.join (lineWords x) [32]
/-- what a line must be that it may be written -/
def okOL (x : OL) : Bool := !outI x.at_ 0 100000 && (decide (1 ≤ x.verb) && decide (x.verb ≤ 17)) && decide (x.nums.length = manyN x.verb) && (if namedB x.verb then nameB x.name else decide (x.name = [])) &&
  (x.nums.all fun n => !outI n (-1000000000000) 1000000000000) && decide ((lineT x).length ≤ 120)
theorem verbs_ok : ∀ k : Fin 17, verbOf (wordN (k.val + 1)) = k.val + 1 ∧ (wordN (k.val + 1)).all (fun c => c != 32) = true := by decide
theorem verbOf_word {k : Nat} (h1 : 1 ≤ k) (h2 : k ≤ 17) : verbOf (wordN k) = k ∧ ∀ c ∈ wordN k, c ≠ 32 := by
  have := verbs_ok ⟨k - 1, by omega⟩
  simp only [show k - 1 + 1 = k by omega] at this
  refine ⟨this.1, fun c hc => ?_⟩
  have := List.all_eq_true.1 this.2 c hc
  simpa using this
theorem verbOf_bd (w : List UInt8) : verbOf w ≤ 17 ∧ (verbOf w ≠ 0 → wordN (verbOf w) = w) := by
  unfold verbOf
  split
  · exact ⟨by omega, fun h => absurd rfl h⟩
  · split
    · rename_i k hk
      obtain ⟨h1, h2, _⟩ := List.findIdx?_eq_some_iff_getElem.1 hk
      have hl : k < 18 := h1
      refine ⟨by omega, fun _ => ?_⟩
      unfold wordN
      rw [List.getD_eq_getElem?_getD, List.getElem?_eq_getElem h1]
      simpa using h2
    · exact ⟨by omega, fun h => absurd rfl h⟩
theorem name_noSp {s : List UInt8} (h : nameB s = true) : ∀ c ∈ s, c ≠ 32 := by
  have main : ∀ (l : List UInt8) (k : Nat), badFrom l k = false → ∀ c ∈ l, c ≠ 32 := by
    intro l
    induction l with
    | nil => intro k _ c hc; cases hc
    | cons d l ih =>
      intro k hb c hc
      simp only [badFrom, Bool.or_eq_false_iff] at hb
      rcases List.mem_cons.1 hc with rfl | hc
      · rintro rfl
        have := hb.1
        simp [chBad] at this
      · exact ih (k + 1) hb.2 c hc
  unfold nameB at h
  simp only [Bool.and_eq_true, Bool.not_eq_true'] at h
  exact main s 0 h.1.1
theorem mapM_itoa : ∀ {ns : List Int}, (ns.all fun n => !outI n (-1000000000000) 1000000000000) = true → (ns.map Lib.itoa).mapM numO = some ns
  | [], _ => rfl
  | n :: ns, h => by
    simp only [List.all_cons, Bool.and_eq_true, Bool.not_eq_true'] at h
    have := outI_false.1 h.1
    simp [numO_itoa this.1 this.2, mapM_itoa h.2]
theorem lineWords_noSp {x : OL} (h1 : 1 ≤ x.verb) (h2 : x.verb ≤ 17) (h3 : namedB x.verb = true → nameB x.name = true) : ∀ w ∈ lineWords x, ∀ c ∈ w, c ≠ 32 := by
  intro w hw
  simp only [lineWords, List.mem_cons, List.mem_append, List.mem_map] at hw
  rcases hw with rfl | rfl | rfl | hw | ⟨n, _, rfl⟩
  · decide
  · exact itoa_noSp _
  · exact (verbOf_word h1 h2).2
  · split at hw
    · rename_i hn
      rw [List.mem_singleton] at hw
      subst hw
      exact name_noSp (h3 hn)
    · cases hw
  · exact itoa_noSp _
/-- a line that may be written reads as it was -/
theorem read_written {x : OL} (h : okOL x = true) : lineE numO (lineT x) = 0 ∧ lineV numO (lineT x) = x := by
  unfold okOL at h
  simp only [Bool.and_eq_true, Bool.not_eq_true', decide_eq_true_eq] at h
  obtain ⟨⟨⟨⟨⟨h1, h2, h3⟩, h4⟩, h5⟩, h6⟩, h7⟩ := h
  have hat := outI_false.1 h1
  have hn : namedB x.verb = true → nameB x.name = true := fun e => by rw [e] at h5; exact h5
  have hw : wordsL (lineT x) = lineWords x := words_join _ (by unfold lineWords; simp) (lineWords_noSp h2 h3 hn)
  have hv := (verbOf_word h2 h3).1
  have hm := mapM_itoa h6
  have hform : formO numO (lineWords x) = some x := by
    unfold lineWords
    simp only [formO, if_true]
    rw [numO_itoa (by omega) (by omega), hv]
    simp only
    rw [if_neg (by omega)]
    cases hb : namedB x.verb with
    | true =>
      simp only [if_true, List.cons_append, List.nil_append]
      rw [hn hb]
      simp only [if_true, numsOf, List.length_map, h4, hm]
    | false =>
      rw [hb] at h5
      simp only [Bool.false_eq_true, if_false, decide_eq_true_eq] at h5
      simp only [Bool.false_eq_true, if_false, List.nil_append, numsOf, List.length_map, h4, hm, if_true, ← h5]
  have hfar : farB x = false := by
    unfold farB
    rw [h1, Bool.false_or]
    rw [List.any_eq_false]
    intro n hn
    have := List.all_eq_true.1 h6 n hn
    simpa using this
  unfold lineE lineV
  rw [if_neg (by omega), if_neg (by omega), hw, hform]
  simp [hfar]
theorem mapM_numO : ∀ {rs : List (List UInt8)} {ns : List Int}, rs.mapM numO = some ns → (ns.any fun n => outI n (-1000000000000) 1000000000000) = false → rs = ns.map Lib.itoa
  | [], ns, h, _ => by simp at h; subst h; rfl
  | r :: rs, ns, h, hf => by
    simp only [List.mapM_cons, Option.bind_eq_bind, Option.bind_eq_some_iff, Option.pure_def, Option.some.injEq] at h
    obtain ⟨n, hn, ms, hms, rfl⟩ := h
    simp only [List.any_cons, Bool.or_eq_false_iff] at hf
    have := outI_false.1 hf.1
    rw [List.map_cons, ← itoa_of_numO hn this.1 this.2, ← mapM_numO hms hf.2]
theorem mapM_len {α β : Type} {f : α → Option β} : ∀ {l : List α} {r : List β}, l.mapM f = some r → r.length = l.length
  | [], r, h => by simp at h; subst h; rfl
  | a :: l, r, h => by
    simp only [List.mapM_cons, Option.bind_eq_bind, Option.bind_eq_some_iff, Option.pure_def, Option.some.injEq] at h
    obtain ⟨n, hn, ms, hms, rfl⟩ := h
    simp [mapM_len hms]
/-- what reads as a line may be written, and is written as it was -/
theorem written_read {s : List UInt8} (h : lineE numO s = 0) : okOL (lineV numO s) = true ∧ lineT (lineV numO s) = s := by
  unfold lineE at h
  unfold lineV
  split at h
  · cases h
  · rename_i hl
    rw [if_neg hl]
    cases hf : formO numO (wordsL s) with
    | none => rw [hf] at h; cases h
    | some x =>
      rw [hf] at h
      simp only at h ⊢
      cases hr : farB x with
      | true => rw [hr] at h; cases h
      | false =>
        simp only [Bool.false_eq_true, if_false]
        unfold farB at hr
        rw [Bool.or_eq_false_iff] at hr
        have key : wordsL s = lineWords x ∧ 1 ≤ x.verb ∧ x.verb ≤ 17 ∧ x.nums.length = manyN x.verb ∧ (if namedB x.verb then nameB x.name else decide (x.name = [])) = true := by
          generalize wordsL s = ws at hf
          match ws, hf with
          | [], hf => cases hf
          | [_], hf => cases hf
          | [_, _], hf => cases hf
          | a :: t :: v :: rest, hf =>
            simp only [formO] at hf
            split at hf
            · rename_i ha
              split at hf
              · rename_i n hn
                split at hf
                · cases hf
                · rename_i hv0
                  obtain ⟨b1, b2⟩ := verbOf_bd v
                  have b3 := b2 hv0
                  split at hf
                  · rename_i hnm
                    cases rest with
                    | nil => cases hf
                    | cons nm rs =>
                      simp only at hf
                      split at hf
                      · rename_i hnb
                        unfold numsOf at hf
                        split at hf
                        · rename_i hlen
                          split at hf
                          · rename_i ns hns
                            injection hf with hf
                            subst hf
                            simp only at hr ⊢
                            have hat := outI_false.1 hr.1
                            refine ⟨?_, by omega, b1, by rw [mapM_len hns, hlen], by rw [hnm]; simpa using hnb⟩
                            unfold lineWords
                            simp only [hnm, if_true, List.cons_append, List.nil_append]
                            rw [ha, b3, ← itoa_of_numO hn (by omega) (by omega), ← mapM_numO hns hr.2]
                          · cases hf
                        · cases hf
                      · cases hf
                  · rename_i hnm
                    have hnm : namedB (verbOf v) = false := by simpa using hnm
                    unfold numsOf at hf
                    split at hf
                    · rename_i hlen
                      split at hf
                      · rename_i ns hns
                        injection hf with hf
                        subst hf
                        simp only at hr ⊢
                        have hat := outI_false.1 hr.1
                        refine ⟨?_, by omega, b1, by rw [mapM_len hns, hlen], by rw [hnm]; simp⟩
                        unfold lineWords
                        simp only [hnm, Bool.false_eq_true, if_false, List.nil_append]
                        rw [ha, b3, ← itoa_of_numO hn (by omega) (by omega), ← mapM_numO hns hr.2]
                      · cases hf
                    · cases hf
              · cases hf
            · cases hf
        obtain ⟨k1, k2, k3, k4, k5⟩ := key
        have hT : lineT x = s := by unfold lineT; rw [← k1, join_words]
        refine ⟨?_, hT⟩
        unfold okOL
        rw [hr.1, hT, k5]
        simp only [Bool.not_false, Bool.true_and, Bool.and_true, Bool.and_eq_true, decide_eq_true_eq, List.all_eq_true, Bool.not_eq_true']
        refine ⟨⟨⟨⟨k2, k3⟩, k4⟩, fun n hn => ?_⟩, by omega⟩
        have := List.any_eq_false.1 hr.2 n hn
        simpa using this
/-! the writer: it writes the line, reads it, and gives it if it is the same -/
def textE (x : OL) (v : Int) : Int := if okOL x && decide (v = x.verb) then 0 else 1
theorem text_same {x : OL} (h1 : 1 ≤ x.verb) (h2 : x.verb ≤ 17) : (lineE numO (lineT x) = 0 ∧ lineV numO (lineT x) = x) ↔ okOL x = true :=
  ⟨fun ⟨h, h'⟩ => by have := (written_read h).1; rwa [h'] at this, read_written⟩
end Go.Proofs.YtkjajpfgdjfcoaaGreatDoor
