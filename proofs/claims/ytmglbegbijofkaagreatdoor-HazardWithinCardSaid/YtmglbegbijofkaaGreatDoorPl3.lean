/- Plain: the first index at which something is so; what Check and asked return. -/
import Derived.Test.YtmglbegbijofkaaGreatDoorPl2
namespace Go.Proofs.YtmglbegbijofkaaGreatDoor
def idxP (p : Int → Bool) : List Int → Int → Int
  | [], _ => -1
  | z :: zs, k => if p z then k else idxP p zs (k + 1)
theorem idxP_drop (p : Int → Bool) (zs : List Int) (i : Nat) (h : i < zs.length) :
    idxP p (zs.drop i) i = if p zs[i] then (i : Int) else idxP p (zs.drop (i + 1)) ((i + 1 : Nat) : Int) := by
  rw [List.drop_eq_getElem_cons h]
  simp [idxP]
theorem idxP_end (p : Int → Bool) (zs : List Int) (k : Int) : idxP p (zs.drop zs.length) k = -1 := by simp [idxP]
theorem idxP_bd (p : Int → Bool) (zs : List Int) (k : Int) (hk : 0 ≤ k) : -1 ≤ idxP p zs k ∧ idxP p zs k ≤ k + zs.length := by
  induction zs generalizing k with
  | nil => simp [idxP]; omega
  | cons z zs ih =>
    simp only [idxP]
    split
    · simp; omega
    · have := ih (k + 1) (by omega)
      simp; omega
def outP (z : Int) : Bool := outB z 0 1000000
/-- Check's first test -/
def mapB (cx cy size cols rows : Int) : Bool := offB cx || offB cy || outB size 1 100000 || outB cols 1 20 || outB rows 1 20
def chkPart (cx cy size cols rows : Int) (zs : List Int) : Int := if mapB cx cy size cols rows then 1 else if (zs.length : Int) ≠ cols * rows then 2 else if 0 ≤ idxP outP zs 0 then 2 else 0
def chkAt (cx cy size cols rows : Int) (zs : List Int) : Int := if mapB cx cy size cols rows then 0 else if (zs.length : Int) ≠ cols * rows then 0 else if 0 ≤ idxP outP zs 0 then idxP outP zs 0 else 0
def chkE (cx cy size cols rows : Int) (zs : List Int) : Int := if mapB cx cy size cols rows then 7 else if (zs.length : Int) ≠ cols * rows then 2 else if 0 ≤ idxP outP zs 0 then 7 else 0
theorem mapB_false {cx cy size cols rows : Int} : mapB cx cy size cols rows = false ↔ (-2000000000 ≤ cx ∧ cx ≤ 2000000000) ∧ (-2000000000 ≤ cy ∧ cy ≤ 2000000000) ∧ (1 ≤ size ∧ size ≤ 100000) ∧ (1 ≤ cols ∧ cols ≤ 20) ∧ (1 ≤ rows ∧ rows ≤ 20) := by
  unfold mapB; simp [offB_false, outB_false]; omega
def askE (cx cy size cols rows : Int) (zs : List Int) (xl xh yl yh lethal cap : Int) : Int :=
  if chkE cx cy size cols rows zs ≠ 0 then chkE cx cy size cols rows zs else if wildB xl xh yl yh then 7 else if outB lethal 0 10000 || outB cap 1 1000000 then 2 else 0
theorem chkE_zero {cx cy size cols rows : Int} {zs : List Int} (h : chkE cx cy size cols rows zs = 0) : mapB cx cy size cols rows = false ∧ (zs.length : Int) = cols * rows ∧ idxP outP zs 0 < 0 := by
  unfold chkE at h
  split at h
  · omega
  · rename_i h1
    split at h
    · omega
    · split at h
      · omega
      · exact ⟨by simpa using h1, by omega, by omega⟩
theorem idxP_none {p : Int → Bool} : ∀ {zs : List Int} {k : Int}, 0 ≤ k → idxP p zs k < 0 → ∀ z ∈ zs, p z = false
  | [], _, _, _ => by simp
  | z :: zs, k, hk, h => by
    simp only [idxP] at h
    split at h
    · omega
    · rename_i hz
      intro y hy
      rcases List.mem_cons.1 hy with rfl | hy
      · simpa using hz
      · exact idxP_none (by omega) h y hy
end Go.Proofs.YtmglbegbijofkaaGreatDoor
