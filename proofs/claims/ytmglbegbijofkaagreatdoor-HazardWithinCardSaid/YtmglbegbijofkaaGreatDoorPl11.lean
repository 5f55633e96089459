/- Plain: two fractions compared by their whole parts, then by their rests the other way round. -/
namespace Go.Proofs.YtmglbegbijofkaaGreatDoor
theorem fr_lt (a b c d : Int) (hb : 0 < b) (hd : 0 < d) (h : a / b < c / d) : a * d < c * b := by
  have h1 : a < (a / b + 1) * b := Int.lt_ediv_add_one_mul_self a hb
  have h2 : c / d * d ≤ c := Int.ediv_mul_le c (by omega)
  have h3 : a * d < (a / b + 1) * b * d := Int.mul_lt_mul_of_pos_right h1 hd
  have h4 : (a / b + 1) * (b * d) ≤ (c / d) * (b * d) := Int.mul_le_mul_of_nonneg_right (by omega) (Int.le_of_lt (Int.mul_pos hb hd))
  have h5 : (c / d * d) * b ≤ c * b := Int.mul_le_mul_of_nonneg_right h2 (by omega)
  have e1 : (a / b + 1) * b * d = (a / b + 1) * (b * d) := Int.mul_assoc ..
  have e2 : (c / d) * (b * d) = (c / d * d) * b := by rw [Int.mul_comm b d, Int.mul_assoc]
  omega
theorem fr_eq (a b c d : Int) (h : a / b = c / d) : a * d ≤ c * b ↔ (a % b) * d ≤ (c % d) * b := by
  have h1 : a % b + b * (a / b) = a := Int.emod_add_mul_ediv a b
  have h2 : c % d + d * (c / d) = c := Int.emod_add_mul_ediv c d
  have e1 : a * d = (a % b) * d + b * (a / b) * d := by
    have : a * d = (a % b + b * (a / b)) * d := by rw [h1]
    rw [this, Int.add_mul]
  have e2 : c * b = (c % d) * b + d * (c / d) * b := by
    have : c * b = (c % d + d * (c / d)) * b := by rw [h2]
    rw [this, Int.add_mul]
  have e3 : d * (c / d) * b = b * (a / b) * d := by
    rw [h, Int.mul_comm d, Int.mul_assoc, Int.mul_comm d b, Int.mul_comm b (c / d), Int.mul_assoc]
  omega
theorem fr_swap (a b c d : Int) : d * a ≤ b * c ↔ a * d ≤ c * b := by rw [Int.mul_comm d a, Int.mul_comm b c]
end Go.Proofs.YtmglbegbijofkaaGreatDoor
