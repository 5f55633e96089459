/- Plain functions on lists: the cells that an area meets. -/
import Derived.Test.YtmglbegbijofkaaGreatDoorPl
namespace Go.Proofs.YtmglbegbijofkaaGreatDoor
/-- the cells of the first i columns in row y -/
def rowL (c y cols : Int) (i : Nat) : List Int := (List.range i).map fun (j : Nat) => y * cols + (c + (j : Int))
/-- the cells of the first k rows -/
def rowsL (c r cols : Int) (nx k : Nat) : List Int := (List.range k).flatMap fun (j : Nat) => rowL c (r + (j : Int)) cols nx
theorem rowL_succ (c y cols : Int) (i : Nat) : rowL c y cols (i + 1) = rowL c y cols i ++ [y * cols + (c + (i : Int))] := by
  simp [rowL, List.range_succ]
theorem rowsL_succ (c r cols : Int) (nx k : Nat) : rowsL c r cols nx (k + 1) = rowsL c r cols nx k ++ rowL c (r + (k : Int)) cols nx := by
  simp [rowsL, List.range_succ, List.flatMap_append]
theorem rowL_length (c y cols : Int) (i : Nat) : (rowL c y cols i).length = i := by simp [rowL]
theorem rowsL_length (c r cols : Int) (nx k : Nat) : (rowsL c r cols nx k).length = k * nx := by
  induction k with
  | zero => simp [rowsL]
  | succ k ih => rw [rowsL_succ, List.length_append, ih, rowL_length, Nat.succ_mul]
theorem stepsLo_bd (l fr side : Int) (h1 : -2000000000 ≤ l) (h2 : l ≤ 2000000000) (h5 : -2000000000 ≤ fr) (h6 : fr ≤ 2000000000) (h7 : 1 ≤ side) : 0 ≤ stepsLo l fr side ∧ stepsLo l fr side ≤ 4000000000 := by
  unfold stepsLo
  obtain ⟨k1, k2⟩ := ediv_facts (l - fr) side h7
  have : (l - fr) / side ≤ 4000000000 := by
    rcases Int.lt_or_le ((l - fr) / side) 0 with h | h
    · omega
    · have := Int.mul_le_mul_of_nonneg_right (c := (l - fr) / side) h7 h
      omega
  omega
theorem stepsHi_bd (l fr side many : Int) (h1 : -2000000000 ≤ l) (h2 : l ≤ 2000000000) (h5 : -2000000000 ≤ fr) (h6 : fr ≤ 2000000000) (h7 : 1 ≤ side) (h8 : 1 ≤ many) : -4000000001 ≤ stepsHi l fr side many ∧ stepsHi l fr side many ≤ many - 1 := by
  unfold stepsHi
  obtain ⟨k1, k2⟩ := ediv_facts (l - fr) side h7
  have : -4000000001 ≤ (l - fr) / side := by
    rcases Int.lt_or_le ((l - fr) / side) (-1) with h | h
    · have := Int.mul_le_mul_of_nonneg_right (c := -((l - fr) / side + 1)) h7 (by omega)
      have e : side * -((l - fr) / side + 1) = -(side * ((l - fr) / side)) - side := by rw [Int.mul_neg, Int.mul_add]; omega
      omega
    · omega
  omega
end Go.Proofs.YtmglbegbijofkaaGreatDoor
