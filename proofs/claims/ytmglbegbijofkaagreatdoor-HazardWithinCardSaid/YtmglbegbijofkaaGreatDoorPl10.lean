/- Plain: the people of a spread. -/
import Derived.Test.YtmglbegbijofkaaGreatDoorPl9
namespace Go.Proofs.YtmglbegbijofkaaGreatDoor
def ppl (zs : List Int) (ps : List (Int × Int)) : Int := (ps.map fun p => p.2 * zs.getD p.1.toNat 0).sum
theorem ppl_snoc (zs : List Int) (ps : List (Int × Int)) (p : Int × Int) : ppl zs (ps ++ [p]) = ppl zs ps + p.2 * zs.getD p.1.toNat 0 := by simp [ppl]
/-- parts that are at most a million each, in cells that are there -/
def PartsOK (zs : List Int) (ps : List (Int × Int)) : Prop := ∀ p ∈ ps, 0 ≤ p.1 ∧ p.1 < zs.length ∧ 0 ≤ p.2 ∧ p.2 ≤ 1000000
theorem ppl_bd (zs : List Int) (hz : ∀ z ∈ zs, 0 ≤ z ∧ z ≤ 1000000) : ∀ (ps : List (Int × Int)), PartsOK zs ps → 0 ≤ ppl zs ps ∧ ppl zs ps ≤ ps.length * 1000000000000
  | [], _ => by simp [ppl]
  | p :: ps, h => by
    have ih := ppl_bd zs hz ps (fun q hq => h q (by simp [hq]))
    obtain ⟨h1, h2, h3, h4⟩ := h p (by simp)
    have hlt : p.1.toNat < zs.length := by omega
    have hz1 := hz zs[p.1.toNat] (List.getElem_mem hlt)
    have e : zs.getD p.1.toNat 0 = zs[p.1.toNat] := by simp [hlt]
    have e2 : ppl zs (p :: ps) = p.2 * zs[p.1.toNat] + ppl zs ps := by simp [ppl, hlt]
    have b1 := Int.mul_nonneg h3 hz1.1
    have b2 := Int.mul_le_mul h4 hz1.2 hz1.1 (by omega : (0 : Int) ≤ 1000000)
    rw [e2, List.length_cons]
    push_cast
    omega
end Go.Proofs.YtmglbegbijofkaaGreatDoor
