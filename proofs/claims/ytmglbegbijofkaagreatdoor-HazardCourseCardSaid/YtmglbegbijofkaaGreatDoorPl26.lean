/- Plain: the reference's way through the words of a notice. -/
import Derived.Test.YtmglbegbijofkaaGreatDoorPD
set_option linter.unusedVariables false
set_option linter.unusedSimpArgs false
namespace Go.Proofs.YtmglbegbijofkaaGreatDoor
theorem parse_none {s : List UInt8} (h : formV (wordsL s) = none) : parseE s = 6 ∧ parseN s = zeroNT := by
  unfold parseE parseN
  rw [h]
  exact ⟨rfl, rfl⟩
theorem parse_some {s : List UInt8} {x : NT} (h : formV (wordsL s) = some x) : parseE s = (if rangeB x then 7 else 0) ∧ parseN s = if rangeB x then zeroNT else x := by
  unfold parseE parseN
  rw [h]
  exact ⟨rfl, rfl⟩
theorem form_cancel {ws : List (List UInt8)} {b : List UInt8} (h : ws = [wCANCEL, b]) : formV ws = (match numV b with | some n => some ⟨n, true, 0, 0, 0, 0, 0, 0⟩ | none => none) := by
  subst h
  rw [formV_two, if_pos rfl]
  cases numV b <;> rfl
theorem range_cancel (n : Int) : rangeB ⟨n, true, 0, 0, 0, 0, 0, 0⟩ = outB n 1 9999 := by
  unfold rangeB kmB
  rw [show outB 0 0 100000 = false from by decide, show outB (0 : Int) 0 0 = false from by decide, show outB 0 (-3000) 3000 = false from by decide, show outB 0 (-3000) 0 = false from by decide]
  simp
theorem form_other {ws : List (List UInt8)} (h : ¬ (ws.length = 2 ∧ ws.getD 0 [] = wCANCEL)) : formV ws = if refLong ws then none else refNums ws := by
  by_cases h2 : ws.length = 2
  · match ws, h2 with
    | [a, b], _ =>
      have hn : ¬ a = wCANCEL := fun e => h ⟨rfl, by simpa using e⟩
      rw [formV_two, if_neg hn]
      have : refLong [a, b] = true := by unfold refLong; simp
      rw [this]; simp
  · rw [formV_long h2]; exact long_ref ws
end Go.Proofs.YtmglbegbijofkaaGreatDoor
