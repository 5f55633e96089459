/- Plain: which strings are names. -/
import Derived.Test.YtmglbegbijofkaaGreatDoorPl4
namespace Go.Proofs.YtmglbegbijofkaaGreatDoor
def chBad (i : Nat) (x : Int) : Bool := !(decide (97 ≤ x) && decide (x ≤ 122)) && (decide (i = 0) || (!decide (x = 45) && !(decide (48 ≤ x) && decide (x ≤ 57))))
def badFrom : List UInt8 → Nat → Bool
  | [], _ => false
  | c :: r, k => chBad k c.toNat || badFrom r (k + 1)
theorem badFrom_drop (l : List UInt8) (k : Nat) (h : k < l.length) : badFrom (l.drop k) k = (chBad k (l.getD k 0).toNat || badFrom (l.drop (k + 1)) (k + 1)) := by
  rw [List.drop_eq_getElem_cons h]
  simp [badFrom, List.getElem?_eq_getElem h]
theorem badFrom_end (l : List UInt8) (k : Nat) : badFrom (l.drop l.length) k = false := by simp [badFrom]
def nameB (l : List UInt8) : Bool := !badFrom l 0 && !outB l.length 1 24
end Go.Proofs.YtmglbegbijofkaaGreatDoor
