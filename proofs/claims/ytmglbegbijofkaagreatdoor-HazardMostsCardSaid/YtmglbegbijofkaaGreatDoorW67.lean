import Derived.Test.YtmglbegbijofkaaGreatDoorWM
import Derived.Test.YtmglbegbijofkaaGreatDoorPl27
import Derived.Test.YtmglbegbijofkaaGreatDoorW37
set_option linter.unusedVariables false
set_option linter.unusedSimpArgs false
namespace Go.Proofs.YtmglbegbijofkaaGreatDoor
open Go.RowKit Go.Shelf Go.Sort
/-- the error and the people of one impact by its law -/
def rkE (cx cy size cols rows : Int) (zs : List Int) (p : Impact × (Int × Int)) : Int := if strangeI p.1 then 7 else mE cx cy size cols rows zs p.1.xl p.1.xh p.1.yl p.1.yh p.2.1 p.2.2
def rkN (cx cy size cols rows : Int) (zs : List Int) (p : Impact × (Int × Int)) : Int := mN cx cy size cols rows zs p.1.xl p.1.xh p.1.yl p.1.yh p.2.1 p.2.2 * p.2.1
def riskE (cx cy size cols rows : Int) (zs : List Int) (l : List Impact) (ws : List (Int × Int)) : Int :=
  if chkE cx cy size cols rows zs ≠ 0 then chkE cx cy size cols rows zs else if 12 < l.length then 3 else if l.length ≠ ws.length then 2 else rkErr (rkE cx cy size cols rows zs) (l.zip ws)
def riskN (cx cy size cols rows : Int) (zs : List Int) (l : List Impact) (ws : List (Int × Int)) : Int := if riskE cx cy size cols rows zs l ws = 0 then rkSum (rkN cx cy size cols rows zs) (l.zip ws) else 0
def riskD (cx cy size cols rows : Int) (zs : List Int) (l : List Impact) (ws : List (Int × Int)) : Int := if riskE cx cy size cols rows zs l ws = 0 then 1000000 * size * size else 0
theorem rk_ok {cx cy size cols rows : Int} {zs : List Int} {p : Impact × (Int × Int)} (h : rkE cx cy size cols rows zs p = 0) : strangeI p.1 = false ∧ mE cx cy size cols rows zs p.1.xl p.1.xh p.1.yl p.1.yh p.2.1 p.2.2 = 0 ∧ 0 ≤ p.2.1 ∧ p.2.1 ≤ 10000 := by
  unfold rkE at h
  cases hs : strangeI p.1 with
  | true => rw [hs] at h; simp at h
  | false =>
    rw [hs] at h
    simp only [Bool.false_eq_true, if_false] at h
    have := outB_false.1 (mE_ok h).leth
    exact ⟨rfl, h, this⟩
theorem rk_bd {cx cy size cols rows : Int} {zs : List Int} {p : Impact × (Int × Int)} (h : rkE cx cy size cols rows zs p = 0) : 0 ≤ rkN cx cy size cols rows zs p ∧ rkN cx cy size cols rows zs p ≤ 10000000000000000 := by
  obtain ⟨_, _, h1, h2⟩ := rk_ok h
  obtain ⟨h3, h4⟩ := mN_bd cx cy size cols rows zs p.1.xl p.1.xh p.1.yl p.1.yh p.2.1 p.2.2
  unfold rkN
  have b1 := Int.mul_nonneg h3 h1
  have b2 := Int.mul_le_mul h4 h2 h1 (by omega : (0 : Int) ≤ 1000000000000)
  omega
theorem riskE_zero {cx cy size cols rows : Int} {zs : List Int} {l : List Impact} {ws : List (Int × Int)} (h : riskE cx cy size cols rows zs l ws = 0) : chkE cx cy size cols rows zs = 0 ∧ l.length ≤ 12 ∧ l.length = ws.length ∧ rkErr (rkE cx cy size cols rows zs) (l.zip ws) = 0 := by
  unfold riskE at h
  by_cases h1 : chkE cx cy size cols rows zs ≠ 0
  · rw [if_pos h1] at h; exact absurd h h1
  · rw [if_neg h1] at h
    by_cases h2 : 12 < l.length
    · rw [if_pos h2] at h; cases h
    · rw [if_neg h2] at h
      by_cases h3 : l.length ≠ ws.length
      · rw [if_pos h3] at h; cases h
      · rw [if_neg h3] at h
        exact ⟨by omega, by omega, by omega, h⟩
theorem riskE_of {cx cy size cols rows : Int} {zs : List Int} {l : List Impact} {ws : List (Int × Int)} (h1 : chkE cx cy size cols rows zs = 0) (h2 : l.length ≤ 12) (h3 : l.length = ws.length) (h4 : rkErr (rkE cx cy size cols rows zs) (l.zip ws) = 0) : riskE cx cy size cols rows zs l ws = 0 := by
  unfold riskE
  rw [if_neg (by omega), if_neg (by omega), if_neg (by omega)]
  exact h4
theorem zip_take {α β : Type} : ∀ (a : List α) (b : List β) (k : Nat), (a.zip b).take k = (a.take k).zip (b.take k)
  | [], b, k => by simp
  | a :: xs, [], k => by cases k <;> simp
  | a :: xs, b :: ys, 0 => by simp
  | a :: xs, b :: ys, k + 1 => by simp [zip_take xs ys k]
theorem zip_drop {α β : Type} : ∀ (a : List α) (b : List β) (k : Nat), (a.zip b).drop k = (a.drop k).zip (b.drop k)
  | [], b, k => by simp
  | a :: xs, [], k => by cases k <;> simp
  | a :: xs, b :: ys, 0 => by simp
  | a :: xs, b :: ys, k + 1 => by simp [zip_drop xs ys k]
/-- the risk of two parts -/
theorem risk_cut {cx cy size cols rows : Int} {zs : List Int} {l : List Impact} {ws : List (Int × Int)} (h : riskE cx cy size cols rows zs l ws = 0) (k : Nat) :
    riskE cx cy size cols rows zs (l.take k) (ws.take k) = 0 ∧ riskE cx cy size cols rows zs (l.drop k) (ws.drop k) = 0 ∧
    riskN cx cy size cols rows zs (l.take k) (ws.take k) + riskN cx cy size cols rows zs (l.drop k) (ws.drop k) = riskN cx cy size cols rows zs l ws ∧
    (0 ≤ riskN cx cy size cols rows zs (l.take k) (ws.take k) ∧ 0 ≤ riskN cx cy size cols rows zs (l.drop k) (ws.drop k) ∧ riskN cx cy size cols rows zs l ws ≤ 120000000000000000) := by
  obtain ⟨h1, h2, h3, h4⟩ := riskE_zero h
  have e : l.zip ws = (l.take k).zip (ws.take k) ++ (l.drop k).zip (ws.drop k) := by rw [← zip_take, ← zip_drop, List.take_append_drop]
  have h5 := h4
  rw [e, rkErr_app] at h5
  have ha : rkErr (rkE cx cy size cols rows zs) ((l.take k).zip (ws.take k)) = 0 := by
    by_cases hh : rkErr (rkE cx cy size cols rows zs) ((l.take k).zip (ws.take k)) = 0
    · exact hh
    · rw [if_neg hh] at h5; exact absurd h5 hh
  rw [if_pos ha] at h5
  have ea := riskE_of h1 (by rw [List.length_take]; omega) (by rw [List.length_take, List.length_take]; omega) ha
  have eb := riskE_of h1 (by rw [List.length_drop]; omega) (by rw [List.length_drop, List.length_drop]; omega) h5
  have bd : ∀ q : List (Impact × (Int × Int)), rkErr (rkE cx cy size cols rows zs) q = 0 → 0 ≤ rkSum (rkN cx cy size cols rows zs) q ∧ rkSum (rkN cx cy size cols rows zs) q ≤ q.length * 10000000000000000 := fun q hq => rkSum_bd (by omega) q (fun p hp => rk_bd (rkErr_mem hq p hp))
  have b1 := bd _ ha
  have b2 := bd _ h5
  have b3 := bd _ h4
  have hlz : (l.zip ws).length ≤ 12 := by rw [List.length_zip]; omega
  refine ⟨ea, eb, ?_, ?_⟩
  · unfold riskN
    rw [if_pos ea, if_pos eb, if_pos h]
    conv => rhs; rw [e, rkSum_app]
  · unfold riskN
    rw [if_pos ea, if_pos eb, if_pos h]
    exact ⟨b1.1, b2.1, by omega⟩
/-- the two results of Risk -/
def RiskEnd (n d k : Int) (e : Ending) : Prop := e = .returned (.tuple #[.agg #[.int .i64 n, .int .i64 d], .int .i64 k])
theorem riskEnd_bad {cx cy size cols rows : Int} {zs : List Int} {l : List Impact} {ws : List (Int × Int)} {k : Int} (h : riskE cx cy size cols rows zs l ws = k) (hk : ¬ k = 0) : RiskEnd (riskN cx cy size cols rows zs l ws) (riskD cx cy size cols rows zs l ws) (riskE cx cy size cols rows zs l ws) (.returned (.tuple #[.agg #[.int .i64 0, .int .i64 0], .int .i64 k])) := by
  unfold RiskEnd riskN riskD
  rw [h, if_neg hk, if_neg hk]
end Go.Proofs.YtmglbegbijofkaaGreatDoor
