/- Plain functions that say what the program's leaves compute; no program in sight. -/
namespace Go.Proofs.YtmglbegbijofkaaGreatDoor
def outB (n lo hi : Int) : Bool := decide (n < lo) || decide (hi < n)
def offB (n : Int) : Bool := outB n (-2000000000) 2000000000
def badB (lo hi : Int) : Bool := offB lo || offB hi || decide (hi < lo)
def wildB (xl xh yl yh : Int) : Bool := badB xl xh || badB yl yh
def strangeB (p xl xh yl yh tl th : Int) : Bool :=
  decide (p < 0) || wildB xl xh yl yh || outB th 0 100000 || outB tl 0 th || decide (3001 ≤ th - tl)
theorem outB_false {n lo hi : Int} : outB n lo hi = false ↔ lo ≤ n ∧ n ≤ hi := by unfold outB; simp
theorem outB_true {n lo hi : Int} : outB n lo hi = true ↔ n < lo ∨ hi < n := by unfold outB; simp
theorem offB_false {n : Int} : offB n = false ↔ -2000000000 ≤ n ∧ n ≤ 2000000000 := by unfold offB; exact outB_false
theorem badB_false {a b : Int} : badB a b = false ↔ -2000000000 ≤ a ∧ b ≤ 2000000000 ∧ a ≤ b := by
  unfold badB; simp [offB_false]; omega
theorem wildB_false {a b c d : Int} : wildB a b c d = false ↔ (-2000000000 ≤ a ∧ b ≤ 2000000000 ∧ a ≤ b) ∧ (-2000000000 ≤ c ∧ d ≤ 2000000000 ∧ c ≤ d) := by
  unfold wildB; simp [badB_false]
theorem strangeB_false {p a b c d s t : Int} : strangeB p a b c d s t = false ↔ 0 ≤ p ∧ ((-2000000000 ≤ a ∧ b ≤ 2000000000 ∧ a ≤ b) ∧ (-2000000000 ≤ c ∧ d ≤ 2000000000 ∧ c ≤ d)) ∧ 0 ≤ s ∧ s ≤ t ∧ t ≤ 100000 ∧ t - s < 3001 := by
  unfold strangeB; simp [wildB_false, outB_false]; omega
theorem tdiv_cases (a b : Int) : (0 ≤ a → a.tdiv b = a / b) ∧ (a < 0 → a.tdiv b = -((-a) / b)) := by
  refine ⟨fun h => Int.tdiv_eq_ediv_of_nonneg h, fun h => ?_⟩
  have e : a.tdiv b = -((-a).tdiv b) := by rw [Int.neg_tdiv]; simp
  rw [e, Int.tdiv_eq_ediv_of_nonneg (by omega)]
theorem ediv_facts (a b : Int) (hb : 1 ≤ b) : b * (a / b) ≤ a ∧ a < b * (a / b) + b := by
  have h1 := Int.emod_add_mul_ediv a b
  have h2 := Int.emod_nonneg a (show b ≠ 0 by omega)
  have h3 := Int.emod_lt_of_pos a (show 0 < b by omega)
  omega
theorem ediv_unique (a b q : Int) (hb : 1 ≤ b) (h1 : b * q ≤ a) (h2 : a < b * q + b) : a / b = q := by
  obtain ⟨h3, h4⟩ := ediv_facts a b hb
  have h5 : b * (a / b) < b * (q + 1) := by rw [Int.mul_add]; omega
  have h6 : b * q < b * (a / b + 1) := by rw [Int.mul_add]; omega
  have h7 := Int.lt_of_mul_lt_mul_left h5 (by omega)
  have h8 := Int.lt_of_mul_lt_mul_left h6 (by omega)
  omega
/-- Go's quotient, its product and the floor -/
theorem floor_facts (a b : Int) (hb : 1 ≤ b) :
    (0 ≤ a → 0 ≤ a.tdiv b ∧ a.tdiv b ≤ a ∧ 0 ≤ a.tdiv b * b ∧ a.tdiv b * b ≤ a) ∧ (a < 0 → a ≤ a.tdiv b ∧ a.tdiv b ≤ 0 ∧ a ≤ a.tdiv b * b ∧ a.tdiv b * b ≤ 0) ∧
    (a < a.tdiv b * b → a / b = a.tdiv b - 1) ∧ (a.tdiv b * b ≤ a → a / b = a.tdiv b) := by
  obtain ⟨hp, hn⟩ := tdiv_cases a b
  rcases Int.lt_or_le a 0 with h | h
  · have e := hn h
    obtain ⟨h1, h2⟩ := ediv_facts (-a) b hb
    have h0 : 0 ≤ (-a) / b := Int.ediv_nonneg (by omega) (by omega)
    have h3 : (-a) / b ≤ b * ((-a) / b) := by
      have := Int.mul_le_mul_of_nonneg_right (c := (-a) / b) hb h0
      omega
    have e2 : a.tdiv b * b = -(b * ((-a) / b)) := by rw [e, Int.neg_mul, Int.mul_comm]
    refine ⟨fun _ => by omega, fun _ => ⟨by omega, by omega, by omega, by
      have : 0 ≤ b * ((-a) / b) := by omega
      omega⟩, fun hl => ?_, fun hl => ?_⟩
    · refine ediv_unique _ _ _ hb ?_ ?_
      · rw [e, Int.mul_sub, Int.mul_neg]; omega
      · rw [e, Int.mul_sub, Int.mul_neg]; omega
    · refine ediv_unique _ _ _ hb ?_ ?_
      · rw [e, Int.mul_neg]; omega
      · rw [e, Int.mul_neg]; omega
  · have e := hp h
    obtain ⟨h1, h2⟩ := ediv_facts a b hb
    have h0 : 0 ≤ a / b := Int.ediv_nonneg (by omega) (by omega)
    have h3 : a / b ≤ b * (a / b) := by
      have := Int.mul_le_mul_of_nonneg_right (c := a / b) hb h0
      omega
    have e2 : a.tdiv b * b = b * (a / b) := by rw [e, Int.mul_comm]
    refine ⟨fun _ => ⟨by omega, by omega, by omega, by omega⟩, fun _ => by omega, fun hl => by omega, fun _ => e.symm⟩

def stepsLo (l fr side : Int) : Int := max ((l - fr) / side) 0
def stepsHi (h fr side many : Int) : Int := min ((h - fr) / side) (many - 1)
def stepsMo (l h fr side many : Int) : Bool := decide ((l - fr) / side < 0) || decide (many ≤ (h - fr) / side)
end Go.Proofs.YtmglbegbijofkaaGreatDoor
