/- Plain: impacts. -/
import Derived.Test.YtmglbegbijofkaaGreatDoorPl8
namespace Go.Proofs.YtmglbegbijofkaaGreatDoor
/-- an impact: piece, area, ticks -/
structure Impact where
  p : Int
  xl : Int
  xh : Int
  yl : Int
  yh : Int
  tl : Int
  th : Int
def Impact.zero : Impact := ⟨0, 0, 0, 0, 0, 0, 0⟩
def imAt (l : List Impact) (k : Nat) : Impact := l.getD k Impact.zero
def strangeI (x : Impact) : Bool := strangeB x.p x.xl x.xh x.yl x.yh x.tl x.th
/-- the first strange one among n from k on -/
def strIdx (l : List Impact) : Nat → Nat → Int
  | 0, _ => -1
  | n + 1, k => if strangeI (imAt l k) then k else strIdx l n (k + 1)
theorem strIdx_any (l : List Impact) : ∀ (n k : Nat), k + n = l.length → (0 ≤ strIdx l n k ↔ (l.drop k).any strangeI = true)
  | 0, k, h => by rw [show k = l.length by omega]; simp [strIdx]
  | n + 1, k, h => by
    have hk : k < l.length := by omega
    have e : imAt l k = l[k] := by simp [imAt, hk]
    rw [List.drop_eq_getElem_cons hk, List.any_cons]
    simp only [strIdx, e]
    split
    · rename_i hs; simp [hs]
    · rename_i hs; simp [hs, strIdx_any l n (k + 1) (by omega)]
end Go.Proofs.YtmglbegbijofkaaGreatDoor
