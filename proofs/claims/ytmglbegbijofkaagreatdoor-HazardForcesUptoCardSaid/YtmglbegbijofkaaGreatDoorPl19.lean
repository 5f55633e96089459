/- Plain: what reads as a notice is written in one way only, and its numbers are within their bounds. -/
import Derived.Test.YtmglbegbijofkaaGreatDoorPl18
set_option linter.unusedVariables false
set_option linter.unusedSimpArgs false
namespace Go.Proofs.YtmglbegbijofkaaGreatDoor
def ntWords (x : NT) : List (List UInt8) := if x.c then [wCANCEL, Lib.itoa x.n] else [wNOTICE, Lib.itoa x.n, wFROM, Lib.itoa x.f, wUNTIL, Lib.itoa x.u, wX, Lib.itoa x.xl, Lib.itoa x.xh, wY, Lib.itoa x.yl, Lib.itoa x.yh]
structure NtOK (x : NT) : Prop where
  n0 : 1 ≤ x.n
  n1 : x.n ≤ 9999
  u1 : x.u ≤ 100000
  f0 : 0 ≤ x.f
  f1 : x.f ≤ x.u
  x0 : -3000 ≤ x.xl
  x1 : x.xl ≤ x.xh
  x2 : x.xh ≤ 3000
  y0 : -3000 ≤ x.yl
  y1 : x.yl ≤ x.yh
  y2 : x.yh ≤ 3000
theorem rangeB_false {x : NT} : rangeB x = false ↔ NtOK x := by
  unfold rangeB kmB
  simp only [Bool.or_eq_false_iff, outB_false]
  constructor
  · rintro ⟨⟨⟨⟨⟨a, b⟩, c, d⟩, e, f⟩, ⟨g, h⟩, i, j⟩, ⟨k, l⟩, m, n⟩
    exact ⟨a, b, d, e, f, i, j, h, m, n, l⟩
  · rintro ⟨a, b, d, e, f, i, j, h, m, n, l⟩
    exact ⟨⟨⟨⟨⟨a, b⟩, by omega, d⟩, e, f⟩, ⟨by omega, h⟩, i, j⟩, ⟨by omega, l⟩, m, n⟩
theorem parse_zero {s : List UInt8} (h : parseE s = 0) : ∃ x, formV (wordsL s) = some x ∧ parseN s = x ∧ NtOK x := by
  unfold parseE at h
  cases hf : formV (wordsL s) with
  | none => rw [hf] at h; simp at h
  | some x =>
    rw [hf] at h
    simp only at h
    cases hr : rangeB x with
    | true => rw [hr] at h; simp at h
    | false => exact ⟨x, rfl, by unfold parseN; rw [hf]; simp [hr], rangeB_false.1 hr⟩
theorem form_words {ws : List (List UInt8)} {x : NT} (h : formV ws = some x) (hx : NtOK x) : ws = ntWords x := by
  obtain ⟨a, b, d, e, f, i, j, k, m, n, l⟩ := hx
  by_cases h2 : ws.length = 2
  · match ws, h2 with
    | [p, q], _ =>
      rw [formV_two] at h
      split at h
      · rename_i hp
        cases hq : numV q with
        | none => rw [hq] at h; simp at h
        | some v =>
          rw [hq] at h
          simp only [Option.some.injEq] at h
          subst h
          simp only at a b
          obtain ⟨e, _⟩ := itoa_of_numV hq (by omega)
          rw [hp]
          unfold ntWords
          simp only [if_true]
          rw [← e]
      · cases h
  · rw [formV_long h2] at h
    obtain ⟨w1, w3, w5, w7, w8, w10, w11, rfl, q1, hc, q3, q5, q7, q8, q10, q11⟩ := longV_some h
    unfold ntWords
    simp only [hc, Bool.false_eq_true, if_false]
    rw [(itoa_of_numV q1 (by omega)).1, (itoa_of_numV q3 (by omega)).1, (itoa_of_numV q5 (by omega)).1, itoa_of_sigV q7 (by omega) (by omega), itoa_of_sigV q8 (by omega) (by omega), itoa_of_sigV q10 (by omega) (by omega), itoa_of_sigV q11 (by omega) (by omega)]
/-- what Parse reads is written in one way only -/
theorem parse_ways {s : List UInt8} (h : parseE s = 0) : s = Lib.join (ntWords (parseN s)) [32] := by
  obtain ⟨x, hf, hn, hx⟩ := parse_zero h
  rw [hn, ← form_words hf hx, join_words]
theorem form_ntWords {x : NT} (hc : x.c = false) (hx : NtOK x) : formV (ntWords x) = some x := by
  obtain ⟨a, b, d, e, f, i, j, k, m, n, l⟩ := hx
  obtain ⟨xn, xc, xf, xu, xl, xh, yl, yh⟩ := x
  simp only at *
  subst hc
  unfold ntWords
  simp only [Bool.false_eq_true, if_false]
  rw [formV_long (by simp)]
  exact longV_of (numV_itoa (by omega) (by omega)) (numV_itoa (by omega) (by omega)) (numV_itoa (by omega) (by omega)) (sigV_itoa (by omega) (by omega)) (sigV_itoa (by omega) (by omega)) (sigV_itoa (by omega) (by omega)) (sigV_itoa (by omega) (by omega))
theorem ntWords_noSp (x : NT) : ∀ w ∈ ntWords x, ∀ c ∈ w, c ≠ 32 := by
  intro w hw
  unfold ntWords at hw
  split at hw
  · simp only [List.mem_cons, List.not_mem_nil, or_false] at hw
    rcases hw with rfl | rfl
    · decide
    · exact itoa_noSp _
  · simp only [List.mem_cons, List.not_mem_nil, or_false] at hw
    rcases hw with rfl | rfl | rfl | rfl | rfl | rfl | rfl | rfl | rfl | rfl | rfl | rfl
    all_goals first | exact itoa_noSp _ | decide
/-- a notice that is written reads as it was -/
theorem parse_written {x : NT} (hc : x.c = false) (hx : NtOK x) : parseE (Lib.join (ntWords x) [32]) = 0 ∧ parseN (Lib.join (ntWords x) [32]) = x := by
  have hw : wordsL (Lib.join (ntWords x) [32]) = ntWords x := words_join _ (by unfold ntWords; split <;> simp) (ntWords_noSp x)
  have hf := form_ntWords hc hx
  have hr := rangeB_false.2 hx
  unfold parseE parseN
  rw [hw, hf]
  simp [hr]
end Go.Proofs.YtmglbegbijofkaaGreatDoor
