/- Plain: crafts and their sights. -/
import Derived.Test.YtmglbegbijofkaaGreatDoorPl5
namespace Go.Proofs.YtmglbegbijofkaaGreatDoor
/-- a sight: tick, place, height, error -/
structure Sight where
  t : Int
  x : Int
  y : Int
  h : Int
  e : Int
def Sight.zero : Sight := ⟨0, 0, 0, 0, 0⟩
def sgAt (ss : List Sight) (k : Nat) : Sight := ss.getD k Sight.zero
def sgEarly (ss : List Sight) (k : Nat) : Bool := decide (0 < k) && decide ((sgAt ss k).t ≤ (sgAt ss (k - 1)).t)
def sgBad (s : Sight) : Bool := outB s.t 0 100000 || offB s.x || offB s.y || outB s.h 0 2000000000 || outB s.e 0 2000000000
/-- the first sight with an error among n from k on -/
def sgI (ss : List Sight) : Nat → Nat → Int
  | 0, _ => 0
  | n + 1, k => if sgEarly ss k then k else if sgBad (sgAt ss k) then k else sgI ss n (k + 1)
def sgE (ss : List Sight) : Nat → Nat → Int
  | 0, _ => 0
  | n + 1, k => if sgEarly ss k then 2 else if sgBad (sgAt ss k) then 7 else sgE ss n (k + 1)
def crB (speed climb low high : Int) : Bool := outB speed 0 1000000 || outB climb 0 1000000 || outB high 0 2000000000 || outB low 0 high
def crI (nm : List UInt8) (speed climb low high : Int) (ss : List Sight) : Int :=
  if !nameB nm then -1 else if crB speed climb low high then -1 else if outB ss.length 1 10 then -1 else sgI ss ss.length 0
def crE (nm : List UInt8) (speed climb low high : Int) (ss : List Sight) : Int :=
  if !nameB nm then 6 else if crB speed climb low high then 7 else if outB ss.length 1 10 then 3 else sgE ss ss.length 0
theorem crB_false {speed climb low high : Int} : crB speed climb low high = false ↔ (0 ≤ speed ∧ speed ≤ 1000000) ∧ (0 ≤ climb ∧ climb ≤ 1000000) ∧ (high ≤ 2000000000) ∧ 0 ≤ low ∧ low ≤ high := by
  unfold crB; simp [outB_false]; omega
theorem sgBad_false {s : Sight} : sgBad s = false ↔ (0 ≤ s.t ∧ s.t ≤ 100000) ∧ (-2000000000 ≤ s.x ∧ s.x ≤ 2000000000) ∧ (-2000000000 ≤ s.y ∧ s.y ≤ 2000000000) ∧ (0 ≤ s.h ∧ s.h ≤ 2000000000) ∧ (0 ≤ s.e ∧ s.e ≤ 2000000000) := by
  unfold sgBad; simp [outB_false, offB_false]; omega
end Go.Proofs.YtmglbegbijofkaaGreatDoor
