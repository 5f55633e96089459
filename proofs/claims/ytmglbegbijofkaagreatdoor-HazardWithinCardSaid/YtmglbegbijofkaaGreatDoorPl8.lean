/- Plain: the first tick at which a craft can be in a room. -/
import Derived.Test.YtmglbegbijofkaaGreatDoorPl7
namespace Go.Proofs.YtmglbegbijofkaaGreatDoor
/-- a valid craft, as the walks use it -/
structure CraftOK (speed climb low high : Int) (ss : List Sight) : Prop where
  s0 : 0 ≤ speed
  s1 : speed ≤ 1000000
  c0 : 0 ≤ climb
  c1 : climb ≤ 1000000
  l0 : 0 ≤ low
  l1 : low ≤ high
  h1 : high ≤ 2000000000
  n0 : 0 < ss.length
  n1 : ss.length ≤ 10
  sg : ∀ k, k < ss.length → sgBad (sgAt ss k) = false
theorem sgE_zero (ss : List Sight) : ∀ (n k : Nat), sgE ss n k = 0 → ∀ j, k ≤ j → j < k + n → sgBad (sgAt ss j) = false
  | 0, k, _, j, h1, h2 => by omega
  | n + 1, k, h, j, h1, h2 => by
    simp only [sgE] at h
    split at h
    · omega
    · split at h
      · omega
      · rename_i hb
        by_cases e : j = k
        · subst e; simpa using hb
        · exact sgE_zero ss n (k + 1) h j (by omega) (by omega)
theorem craft_ok {nm : List UInt8} {speed climb low high : Int} {ss : List Sight} (h : crE nm speed climb low high ss = 0) : CraftOK speed climb low high ss := by
  unfold crE at h
  split at h
  · omega
  · split at h
    · omega
    · split at h
      · omega
      · rename_i h1 h2 h3
        have k2 := crB_false.1 (by simpa using h2)
        have k3 := outB_false.1 (by simpa using h3)
        exact ⟨by omega, by omega, by omega, by omega, by omega, by omega, by omega, by omega, by omega, fun k hk => sgE_zero ss ss.length 0 h k (by omega) (by omega)⟩
/-- the room of a craft and another one have nothing in common, in one of three ways -/
def roomB (speed climb low high t : Int) (ss : List Sight) (a b c d e f : Int) : Bool :=
  !decide (min (whXH speed t ss) b < max (whXL speed t ss) a) && !decide (min (whYH speed t ss) d < max (whYL speed t ss) c) && !decide (min (whZH climb high t ss) f < max (whZL climb low t ss) e)
/-- n ticks from t on: the first at which the craft can be in the room o -/
def firstT (speed climb low high : Int) (ss : List Sight) (o : Int → Int × Int × Int × Int × Int × Int) : Nat → Int → Int
  | 0, _ => -1
  | n + 1, t => if !whB speed climb low high t ss then 0 else if roomB speed climb low high t ss (o t).1 (o t).2.1 (o t).2.2.1 (o t).2.2.2.1 (o t).2.2.2.2.1 (o t).2.2.2.2.2 then t else firstT speed climb low high ss o n (t + 1)
def firstE (speed climb low high : Int) (ss : List Sight) (o : Int → Int × Int × Int × Int × Int × Int) : Nat → Int → Int
  | 0, _ => 0
  | n + 1, t => if !whB speed climb low high t ss then 9 else if roomB speed climb low high t ss (o t).1 (o t).2.1 (o t).2.2.1 (o t).2.2.2.1 (o t).2.2.2.2.1 (o t).2.2.2.2.2 then 0 else firstE speed climb low high ss o n (t + 1)
end Go.Proofs.YtmglbegbijofkaaGreatDoor
