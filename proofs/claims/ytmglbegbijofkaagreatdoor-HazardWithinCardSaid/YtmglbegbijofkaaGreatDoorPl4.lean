/- Plain: spans in common. -/
import Derived.Test.YtmglbegbijofkaaGreatDoorPl3
namespace Go.Proofs.YtmglbegbijofkaaGreatDoor
def comLo (lo : Int) (ss : List (Int × Int)) : Int := ss.foldl (fun a s => max a s.1) lo
def comHi (hi : Int) (ss : List (Int × Int)) : Int := ss.foldl (fun a s => min a s.2) hi
theorem comLo_drop (lo : Int) (ss : List (Int × Int)) (k : Nat) (h : k < ss.length) : comLo lo (ss.drop k) = comLo (max lo ss[k].1) (ss.drop (k + 1)) := by
  rw [List.drop_eq_getElem_cons h]; rfl
theorem comHi_drop (hi : Int) (ss : List (Int × Int)) (k : Nat) (h : k < ss.length) : comHi hi (ss.drop k) = comHi (min hi ss[k].2) (ss.drop (k + 1)) := by
  rw [List.drop_eq_getElem_cons h]; rfl
end Go.Proofs.YtmglbegbijofkaaGreatDoor
