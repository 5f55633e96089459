import Derived.Test.YtmglbegbijofkaaGreatDoorQ00
import Derived.Test.YtmglbegbijofkaaGreatDoorQ15
import Derived.Lib.Atoi
import Derived.Lib.ItoaNum
import Derived.Lib.Join
import Derived.Lib.SlTrimSet
set_option linter.unusedVariables false
set_option linter.unusedSimpArgs false
/- Plain: decimal numbers as a notice writes them, with and without a sign; the words of a string and the string of the words. -/
namespace Go.Proofs.YtmglbegbijofkaaGreatDoor
def digB (c : UInt8) : Bool := decide (48 ≤ c.toNat) && decide (c.toNat ≤ 57)
def valF (acc : Nat) (l : List UInt8) : Nat := l.foldl (fun n c => n * 10 + (c.toNat - 48)) acc
def valD (l : List UInt8) : Nat := valF 0 l
theorem digB_iff {c : UInt8} : digB c = true ↔ 48 ≤ c.toNat ∧ c.toNat ≤ 57 := by unfold digB; simp
theorem valF_snoc (acc : Nat) (l : List UInt8) (c : UInt8) : valF acc (l ++ [c]) = valF acc l * 10 + (c.toNat - 48) := by simp [valF]
theorem valD_snoc (l : List UInt8) (c : UInt8) : valD (l ++ [c]) = valD l * 10 + (c.toNat - 48) := valF_snoc 0 l c
theorem decFrom_val : ∀ (l : List UInt8) (acc : Nat), l.all digB = true → Lib.decFrom acc l = some (valF acc l)
  | [], acc, _ => rfl
  | c :: l, acc, h => by
    simp only [List.all_cons, Bool.and_eq_true] at h
    have hc := digB_iff.1 h.1
    unfold Lib.decFrom Lib.digitVal
    rw [if_pos ⟨hc.1, hc.2⟩]
    exact decFrom_val l _ h.2
theorem atoi_val (l : List UInt8) (h : l.all digB = true) (hne : l ≠ []) : Lib.atoi l = some (valD l : Int) := by
  cases l with
  | nil => exact absurd rfl hne
  | cons c l =>
    have h2 := h
    simp only [List.all_cons, Bool.and_eq_true] at h2
    have hc := digB_iff.1 h2.1
    have n1 : (c == 45) = false := by
      rw [beq_eq_false_iff_ne]; rintro rfl; simp at hc
    have n2 : (c == 43) = false := by
      rw [beq_eq_false_iff_ne]; rintro rfl; simp at hc
    unfold Lib.atoi Lib.decNat
    simp only [n1, n2, List.isEmpty_cons, Bool.false_eq_true, if_false]
    rw [decFrom_val _ _ h]
    rfl
theorem rev_ind {P : List UInt8 → Prop} (h0 : P []) (h1 : ∀ l c, P l → P (l ++ [c])) : ∀ l, P l := fun l => by
  have : ∀ r : List UInt8, P r.reverse := fun r => by
    induction r with
    | nil => exact h0
    | cons c r ih => rw [List.reverse_cons]; exact h1 _ _ ih
  have h := this l.reverse
  rwa [List.reverse_reverse] at h
theorem valD_lt (l : List UInt8) (h : l.all digB = true) : valD l < 10 ^ l.length := by
  induction l using rev_ind with
  | h0 => simp [valD, valF]
  | h1 l c ih =>
    simp only [List.all_append, Bool.and_eq_true, List.all_cons, List.all_nil, Bool.and_true] at h
    have := ih h.1
    have hc := digB_iff.1 h.2
    rw [valD_snoc, List.length_append, List.length_singleton, Nat.pow_succ]
    omega
theorem valF_ge : ∀ (l : List UInt8) (acc : Nat), acc * 10 ^ l.length ≤ valF acc l
  | [], acc => by simp [valF]
  | c :: l, acc => by
    have := valF_ge l (acc * 10 + (c.toNat - 48))
    have e : valF acc (c :: l) = valF (acc * 10 + (c.toNat - 48)) l := rfl
    rw [e, List.length_cons, Nat.pow_succ, Nat.mul_comm (10 ^ l.length) 10, ← Nat.mul_assoc]
    exact Nat.le_trans (Nat.mul_le_mul_right _ (by omega)) this
/-- no leading zero -/
theorem valD_ge (c : UInt8) (l : List UInt8) (hc : 49 ≤ c.toNat) : 10 ^ l.length ≤ valD (c :: l) := by
  have := valF_ge l (0 * 10 + (c.toNat - 48))
  have e : valD (c :: l) = valF (0 * 10 + (c.toNat - 48)) l := rfl
  rw [e]
  refine Nat.le_trans ?_ this
  have := Nat.mul_le_mul_right (10 ^ l.length) (show 1 ≤ 0 * 10 + (c.toNat - 48) by omega)
  omega
def numBad (w : List UInt8) : Bool := w.isEmpty || (decide (1 < w.length) && w.headD 0 == 48)
def numV (w : List UInt8) : Option Int := if numBad w || !w.all digB then none else some (min 1000000000 (valD w : Int))
def sigV (w : List UInt8) : Option Int := if w.headD 0 = 45 then (match numV w.tail with | some n => if 0 < n then some (-n) else none | none => none) else numV w
theorem numV_bd {w : List UInt8} {n : Int} (h : numV w = some n) : 0 ≤ n ∧ n ≤ 1000000000 := by
  unfold numV at h
  split at h
  · cases h
  · simp only [Option.some.injEq] at h; omega
/-- a number by Atoi: where it is short, and where it is long -/
theorem numV_short {w : List UInt8} (hb : numBad w = false) (hd : w.all digB = true) (h9 : w.length ≤ 9) : numV w = some (valD w : Int) := by
  unfold numV
  rw [hb, hd]
  have h1 := valD_lt w hd
  have h2 : 10 ^ w.length ≤ 10 ^ 9 := Nat.pow_le_pow_right (by omega) h9
  simp only [Bool.or_self, Bool.not_true, Bool.false_eq_true, if_false, Option.some.injEq]
  omega
theorem numV_long {w : List UInt8} (hb : numBad w = false) (hd : w.all digB = true) (h9 : 9 < w.length) : numV w = some 1000000000 := by
  unfold numV
  rw [hb, hd]
  cases w with
  | nil => simp at h9
  | cons c l =>
    have hc : 49 ≤ c.toNat := by
      simp only [List.all_cons, Bool.and_eq_true] at hd
      have h1 := digB_iff.1 hd.1
      unfold numBad at hb
      simp only [List.isEmpty_cons, Bool.false_or, Bool.and_eq_false_iff, decide_eq_false_iff_not, List.headD_cons, beq_eq_false_iff_ne] at hb
      rcases hb with hb | hb
      · simp at hb h9; subst hb; simp at h9
      · by_cases e : c.toNat = 48
        · exact absurd (UInt8.toNat_inj.1 (e.trans rfl)) hb
        · omega
    have h1 := valD_ge c l hc
    have h2 : 10 ^ 9 ≤ 10 ^ l.length := Nat.pow_le_pow_right (by omega) (by simp at h9; omega)
    simp only [Bool.or_self, Bool.not_true, Bool.false_eq_true, if_false, Option.some.injEq]
    omega
def dig10 : List UInt8 := [48, 49, 50, 51, 52, 53, 54, 55, 56, 57]
theorem dig10_iff (c : UInt8) : dig10.contains c = digB c := by
  have h : ∀ i : Fin 256, dig10.contains (UInt8.ofNat i.val) = digB (UInt8.ofNat i.val) := by decide +kernel
  have := h ⟨c.toNat, UInt8.toNat_lt c⟩
  simpa using this
theorem dropWhile_nil {p : UInt8 → Bool} : ∀ l : List UInt8, l.dropWhile p = [] ↔ l.all p = true
  | [] => by simp
  | c :: l => by
    rw [List.dropWhile_cons]
    cases h : p c
    · simp [h]
    · simp only [if_true, List.all_cons, h, Bool.true_and]; exact dropWhile_nil l
theorem trim_nil (w : List UInt8) : Lib.trimS w dig10 = [] ↔ w.all digB = true := by
  unfold Lib.trimS Lib.trimLeftS Lib.trimRightS
  have hf : (fun x => dig10.contains x) = digB := by funext c; exact dig10_iff c
  rw [hf, dropWhile_nil, List.all_reverse]
  constructor
  · intro h
    have h2 := dropWhile_nil (p := digB) w.reverse
    have h3 : w.reverse.dropWhile digB = [] := by
      cases hc : w.reverse.dropWhile digB with
      | nil => rfl
      | cons c l =>
        rw [hc] at h
        simp only [List.all_cons, Bool.and_eq_true] at h
        have := List.head_dropWhile_not digB (l := w.reverse) (by rw [hc]; simp)
        simp only [hc, List.head_cons] at this
        rw [this] at h; simp at h
    have := h2.1 h3
    rwa [List.all_reverse] at this
  · intro h
    have h2 := (dropWhile_nil (p := digB) w.reverse).2 (by rw [List.all_reverse]; exact h)
    rw [h2]; rfl

/-! the numeral -/
theorem numBad_false {w : List UInt8} : numBad w = false ↔ w ≠ [] ∧ (1 < w.length → w.headD 0 ≠ 48) := by
  unfold numBad
  cases w with
  | nil => simp
  | cons c l =>
    simp only [List.isEmpty_cons, Bool.false_or, Bool.and_eq_false_iff, decide_eq_false_iff_not, beq_eq_false_iff_ne]
    constructor
    · rintro h; refine ⟨by simp, fun h2 => ?_⟩
      rcases h with h | h
      · exact absurd h2 h
      · exact h
    · rintro ⟨_, h⟩
      by_cases h2 : 1 < (c :: l).length
      · exact Or.inr (h h2)
      · exact Or.inl h2
/-! words -/
/-! notices -/
structure NT where
  n : Int
  c : Bool
  f : Int
  u : Int
  xl : Int
  xh : Int
  yl : Int
  yh : Int
  deriving DecidableEq
def wNOTICE : List UInt8 := [78, 79, 84, 73, 67, 69]
def wFROM : List UInt8 := [70, 82, 79, 77]
def wUNTIL : List UInt8 := [85, 78, 84, 73, 76]
def wCANCEL : List UInt8 := [67, 65, 78, 67, 69, 76]
def wX : List UInt8 := [88]
def wY : List UInt8 := [89]
/-- the steps of a reader of words -/
def mustV (y : List UInt8) : List (List UInt8) → Option (List (List UInt8))
  | [] => none
  | x :: ws => if x = y then some ws else none
def numberV : List (List UInt8) → Option (Int × List (List UInt8))
  | [] => none
  | x :: ws => match numV x with | some n => some (n, ws) | none => none
def signedV : List (List UInt8) → Option (Int × List (List UInt8))
  | [] => none
  | x :: ws => match sigV x with | some n => some (n, ws) | none => none
def spanV (y : List UInt8) (ws : List (List UInt8)) : Option ((Int × Int) × List (List UInt8)) :=
  match mustV y ws with
  | none => none
  | some ws1 => match signedV ws1 with
    | none => none
    | some (a, ws2) => match signedV ws2 with
      | none => none
      | some (b, ws3) => some ((a, b), ws3)
def longV (ws : List (List UInt8)) : Option NT :=
  match mustV wNOTICE ws with
  | none => none
  | some w1 => match numberV w1 with
    | none => none
    | some (n, w2) => match mustV wFROM w2 with
      | none => none
      | some w3 => match numberV w3 with
        | none => none
        | some (f, w4) => match mustV wUNTIL w4 with
          | none => none
          | some w5 => match numberV w5 with
            | none => none
            | some (u, w6) => match spanV wX w6 with
              | none => none
              | some (x, w7) => match spanV wY w7 with
                | none => none
                | some (y, w8) => if w8 = [] then some ⟨n, false, f, u, x.1, x.2, y.1, y.2⟩ else none
def formV (ws : List (List UInt8)) : Option NT :=
  match ws with
  | [a, b] => if a = wCANCEL then (match numV b with | some n => some ⟨n, true, 0, 0, 0, 0, 0, 0⟩ | none => none) else none
  | _ => longV ws
def kmB (lo hi : Int) : Bool := outB hi (-3000) 3000 || outB lo (-3000) hi
def rangeB (x : NT) : Bool := outB x.n 1 9999 || outB x.u 0 100000 || outB x.f 0 x.u || kmB x.xl x.xh || kmB x.yl x.yh
def zeroNT : NT := ⟨0, false, 0, 0, 0, 0, 0, 0⟩
def parseE (s : List UInt8) : Int := match formV (wordsL s) with | none => 6 | some x => if rangeB x then 7 else 0
def parseN (s : List UInt8) : NT := match formV (wordsL s) with | none => zeroNT | some x => if rangeB x then zeroNT else x
/-- the reference's test of the words -/
def refLong (ws : List (List UInt8)) : Bool := ws.length != 12 || ws.getD 0 [] != wNOTICE || ws.getD 2 [] != wFROM || ws.getD 4 [] != wUNTIL || ws.getD 6 [] != wX || ws.getD 9 [] != wY
def refNums (ws : List (List UInt8)) : Option NT :=
  match numV (ws.getD 1 []), numV (ws.getD 3 []), numV (ws.getD 5 []), sigV (ws.getD 7 []), sigV (ws.getD 8 []), sigV (ws.getD 10 []), sigV (ws.getD 11 []) with
  | some n, some f, some u, some a, some b, some c, some d => some ⟨n, false, f, u, a, b, c, d⟩
  | _, _, _, _, _, _, _ => none
theorem mustV_some {y : List UInt8} {ws r : List (List UInt8)} : mustV y ws = some r ↔ ws = y :: r := by
  cases ws with
  | nil => simp [mustV]
  | cons x ws =>
    simp only [mustV]
    split
    · rename_i h; subst h; simp
    · rename_i h; simp [h]
theorem numberV_some {ws r : List (List UInt8)} {n : Int} : numberV ws = some (n, r) ↔ ∃ w, ws = w :: r ∧ numV w = some n := by
  cases ws with
  | nil => simp [numberV]
  | cons x ws =>
    simp only [numberV]
    cases h : numV x with
    | none => simp [h]
    | some m => simp; constructor
                · rintro ⟨rfl, rfl⟩; exact ⟨x, ⟨rfl, rfl⟩, h⟩
                · rintro ⟨w, ⟨rfl, rfl⟩, h2⟩; rw [h] at h2; exact ⟨Option.some.inj h2, rfl⟩
theorem signedV_some {ws r : List (List UInt8)} {n : Int} : signedV ws = some (n, r) ↔ ∃ w, ws = w :: r ∧ sigV w = some n := by
  cases ws with
  | nil => simp [signedV]
  | cons x ws =>
    simp only [signedV]
    cases h : sigV x with
    | none => simp [h]
    | some m => simp; constructor
                · rintro ⟨rfl, rfl⟩; exact ⟨x, ⟨rfl, rfl⟩, h⟩
                · rintro ⟨w, ⟨rfl, rfl⟩, h2⟩; rw [h] at h2; exact ⟨Option.some.inj h2, rfl⟩
theorem spanV_some {y : List UInt8} {ws r : List (List UInt8)} {a b : Int} (h : spanV y ws = some ((a, b), r)) : ∃ w v, ws = y :: w :: v :: r ∧ sigV w = some a ∧ sigV v = some b := by
  unfold spanV at h
  split at h
  · cases h
  · rename_i w1 h1
    split at h
    · cases h
    · rename_i a1 w2 h2
      split at h
      · cases h
      · rename_i b1 w3 h3
        simp only [Option.some.injEq, Prod.mk.injEq] at h
        obtain ⟨⟨rfl, rfl⟩, rfl⟩ := h
        obtain rfl := mustV_some.1 h1
        obtain ⟨w, rfl, h4⟩ := signedV_some.1 h2
        obtain ⟨v, rfl, h5⟩ := signedV_some.1 h3
        exact ⟨w, v, rfl, h4, h5⟩
theorem longV_some {ws : List (List UInt8)} {x : NT} (h : longV ws = some x) : ∃ w1 w3 w5 w7 w8 w10 w11, ws = [wNOTICE, w1, wFROM, w3, wUNTIL, w5, wX, w7, w8, wY, w10, w11] ∧ numV w1 = some x.n ∧ x.c = false ∧ numV w3 = some x.f ∧ numV w5 = some x.u ∧ sigV w7 = some x.xl ∧ sigV w8 = some x.xh ∧ sigV w10 = some x.yl ∧ sigV w11 = some x.yh := by
  unfold longV at h
  split at h
  · cases h
  rename_i r1 h1
  split at h
  · cases h
  rename_i n r2 h2
  split at h
  · cases h
  rename_i r3 h3
  split at h
  · cases h
  rename_i f r4 h4
  split at h
  · cases h
  rename_i r5 h5
  split at h
  · cases h
  rename_i u r6 h6
  split at h
  · cases h
  rename_i a r7 h7
  split at h
  · cases h
  rename_i b r8 h8
  split at h
  · rename_i h9
    simp only [Option.some.injEq] at h
    subst h
    subst h9
    obtain ⟨a1, a2⟩ := a
    obtain ⟨b1, b2⟩ := b
    obtain rfl := mustV_some.1 h1
    obtain ⟨w1, rfl, q1⟩ := numberV_some.1 h2
    obtain rfl := mustV_some.1 h3
    obtain ⟨w3, rfl, q3⟩ := numberV_some.1 h4
    obtain rfl := mustV_some.1 h5
    obtain ⟨w5, rfl, q5⟩ := numberV_some.1 h6
    obtain ⟨w7, w8, rfl, q7, q8⟩ := spanV_some h7
    obtain ⟨w10, w11, rfl, q10, q11⟩ := spanV_some h8
    exact ⟨w1, w3, w5, w7, w8, w10, w11, rfl, q1, rfl, q3, q5, q7, q8, q10, q11⟩
  · cases h
theorem longV_of {w1 w3 w5 w7 w8 w10 w11 : List UInt8} {n f u a b c d : Int} (q1 : numV w1 = some n) (q3 : numV w3 = some f) (q5 : numV w5 = some u) (q7 : sigV w7 = some a) (q8 : sigV w8 = some b) (q10 : sigV w10 = some c) (q11 : sigV w11 = some d) :
    longV [wNOTICE, w1, wFROM, w3, wUNTIL, w5, wX, w7, w8, wY, w10, w11] = some ⟨n, false, f, u, a, b, c, d⟩ := by
  simp [longV, mustV, numberV, spanV, signedV, q1, q3, q5, q7, q8, q10, q11]
/-- the reference's way to the same -/
theorem long_ref (ws : List (List UInt8)) : longV ws = if refLong ws then none else refNums ws := by
  cases hl : refLong ws with
  | true =>
    rw [if_pos rfl]
    cases h : longV ws with
    | none => rfl
    | some x =>
      obtain ⟨w1, w3, w5, w7, w8, w10, w11, rfl, _⟩ := longV_some h
      simp [refLong] at hl
  | false =>
    simp only [Bool.false_eq_true, if_false]
    unfold refLong at hl
    simp only [Bool.or_eq_false_iff, bne_eq_false_iff_eq] at hl
    obtain ⟨⟨⟨⟨⟨h12, p0⟩, p2⟩, p4⟩, p6⟩, p9⟩ := hl
    match ws, h12 with
    | [a0, a1, a2, a3, a4, a5, a6, a7, a8, a9, a10, a11], _ =>
      simp only [List.getD_cons_zero, List.getD_cons_succ] at p0 p2 p4 p6 p9
      subst p0 p2 p4 p6 p9
      unfold refNums
      simp only [List.getD_cons_zero, List.getD_cons_succ]
      split
      · rename_i n f u a b c d q1 q3 q5 q7 q8 q10 q11
        exact longV_of q1 q3 q5 q7 q8 q10 q11
      · rename_i hno
        cases h : longV [wNOTICE, a1, wFROM, a3, wUNTIL, a5, wX, a7, a8, wY, a10, a11] with
        | none => rfl
        | some x =>
          obtain ⟨w1, w3, w5, w7, w8, w10, w11, hw, q1, _, q3, q5, q7, q8, q10, q11⟩ := longV_some h
          simp only [List.cons.injEq, true_and, and_true] at hw
          obtain ⟨rfl, rfl, rfl, rfl, rfl, rfl, rfl⟩ := hw
          exact (hno _ _ _ _ _ _ _ q1 q3 q5 q7 q8 q10 q11).elim
theorem formV_long {ws : List (List UInt8)} (h : ws.length ≠ 2) : formV ws = longV ws := by
  unfold formV
  split
  · simp at h
  · rfl
end Go.Proofs.YtmglbegbijofkaaGreatDoor
/- Plain: what reads as a notice is written in one way only, and its numbers are within their bounds. -/
namespace Go.Proofs.YtmglbegbijofkaaGreatDoor
structure NtOK (x : NT) : Prop where
  n0 : 1 ≤ x.n
  n1 : x.n ≤ 9999
  u1 : x.u ≤ 100000
  f0 : 0 ≤ x.f
  f1 : x.f ≤ x.u
  x0 : -3000 ≤ x.xl
  x1 : x.xl ≤ x.xh
  x2 : x.xh ≤ 3000
  y0 : -3000 ≤ x.yl
  y1 : x.yl ≤ x.yh
  y2 : x.yh ≤ 3000
theorem rangeB_false {x : NT} : rangeB x = false ↔ NtOK x := by
  unfold rangeB kmB
  simp only [Bool.or_eq_false_iff, outB_false]
  constructor
  · rintro ⟨⟨⟨⟨⟨a, b⟩, c, d⟩, e, f⟩, ⟨g, h⟩, i, j⟩, ⟨k, l⟩, m, n⟩
    exact ⟨a, b, d, e, f, i, j, h, m, n, l⟩
  · rintro ⟨a, b, d, e, f, i, j, h, m, n, l⟩
    exact ⟨⟨⟨⟨⟨a, b⟩, by omega, d⟩, e, f⟩, ⟨by omega, h⟩, i, j⟩, ⟨by omega, l⟩, m, n⟩
theorem parse_zero {s : List UInt8} (h : parseE s = 0) : ∃ x, formV (wordsL s) = some x ∧ parseN s = x ∧ NtOK x := by
  unfold parseE at h
  cases hf : formV (wordsL s) with
  | none => rw [hf] at h; simp at h
  | some x =>
    rw [hf] at h
    simp only at h
    cases hr : rangeB x with
    | true => rw [hr] at h; simp at h
    | false => exact ⟨x, rfl, by unfold parseN; rw [hf]; simp [hr], rangeB_false.1 hr⟩
end Go.Proofs.YtmglbegbijofkaaGreatDoor
/- Plain: the words of a string, letter by letter. -/
namespace Go.Proofs.YtmglbegbijofkaaGreatDoor
end Go.Proofs.YtmglbegbijofkaaGreatDoor
