/- Plain: where a craft can be, by its sights. -/
import Derived.Test.YtmglbegbijofkaaGreatDoorPl6
namespace Go.Proofs.YtmglbegbijofkaaGreatDoor
def far (tick : Int) (s : Sight) : Int := max (tick - s.t) (s.t - tick)
def sgX (speed tick : Int) (s : Sight) : Int × Int := (s.x - (s.e + far tick s * speed), s.x + (s.e + far tick s * speed))
def sgY (speed tick : Int) (s : Sight) : Int × Int := (s.y - (s.e + far tick s * speed), s.y + (s.e + far tick s * speed))
def sgZ (climb tick : Int) (s : Sight) : Int × Int := (s.h - (s.e + far tick s * climb), s.h + (s.e + far tick s * climb))
theorem take_snoc_map {α β : Type} (f : α → β) (ss : List α) (k : Nat) (h : k < ss.length) : (ss.take (k + 1)).map f = (ss.take k).map f ++ [f ss[k]] := by
  rw [List.take_succ_eq_append_getElem h, List.map_append]; rfl
theorem far_bd (tick : Int) (s : Sight) (h1 : 0 ≤ tick) (h2 : tick ≤ 100000) (h3 : 0 ≤ s.t) (h4 : s.t ≤ 100000) : 0 ≤ far tick s ∧ far tick s ≤ 100000 := by
  unfold far; omega
theorem mul_bd (a b A B : Int) (h1 : 0 ≤ a) (h2 : a ≤ A) (h3 : 0 ≤ b) (h4 : b ≤ B) : 0 ≤ a * b ∧ a * b ≤ A * B :=
  ⟨Int.mul_nonneg h1 h3, Int.mul_le_mul h2 h4 h3 (by omega)⟩
def comL : List (Int × Int) → Int
  | [] => 0
  | p :: t => comLo p.1 t
def comH : List (Int × Int) → Int
  | [] => 0
  | p :: t => comHi p.2 t
def whXL (speed tick : Int) (ss : List Sight) : Int := comL (ss.map (sgX speed tick))
def whXH (speed tick : Int) (ss : List Sight) : Int := comH (ss.map (sgX speed tick))
def whYL (speed tick : Int) (ss : List Sight) : Int := comL (ss.map (sgY speed tick))
def whYH (speed tick : Int) (ss : List Sight) : Int := comH (ss.map (sgY speed tick))
def whZL (climb low tick : Int) (ss : List Sight) : Int := comLo low (ss.map (sgZ climb tick))
def whZH (climb high tick : Int) (ss : List Sight) : Int := comHi high (ss.map (sgZ climb tick))
def whB (speed climb low high tick : Int) (ss : List Sight) : Bool :=
  decide (whXL speed tick ss ≤ whXH speed tick ss) && decide (whYL speed tick ss ≤ whYH speed tick ss) && decide (whZL climb low tick ss ≤ whZH climb high tick ss)
end Go.Proofs.YtmglbegbijofkaaGreatDoor
