import Derived.Test.YtmglbegbijofkaaGreatDoorQ22
import Derived.Test.YtmglbegbijofkaaGreatDoorQ05
import Derived.Test.YtmglbegbijofkaaGreatDoorQ23
import Derived.Test.YtmglbegbijofkaaGreatDoorQ25
import Derived.Test.YtmglbegbijofkaaGreatDoorQ26
set_option linter.unusedVariables false
set_option linter.unusedSimpArgs false
/- The values of the document's examples. -/
namespace Go.Proofs.YtmglbegbijofkaaGreatDoor
theorem kn_c1 : clL 0 0 1000 3 2 exZ 500000 1500000 0 0 = [0, 1] ∧ clM 0 0 1000 3 2 exZ 500000 1500000 0 0 = false ∧ clE 0 0 1000 3 2 exZ 500000 1500000 0 0 = 0 := by decide +kernel
theorem kn_c2 : clL 0 0 1000 3 2 exZ (-1) 999999 0 1000000 = [0, 3] ∧ clM 0 0 1000 3 2 exZ (-1) 999999 0 1000000 = true ∧ clE 0 0 1000 3 2 exZ (-1) 999999 0 1000000 = 0 := by decide +kernel
theorem kn_c3 : ceV (clE 0 0 1000 3 2 exZ 1000000 1000000 1000000 1000000) (clL 0 0 1000 3 2 exZ 1000000 1000000 1000000 1000000) = 4 ∧ clE 0 0 1000 3 2 exZ 1000000 1000000 1000000 1000000 = 0 := by decide +kernel
theorem kn_c4 : ceV (clE 0 0 1000 3 2 exZ 0 0 (-1) (-1)) (clL 0 0 1000 3 2 exZ 0 0 (-1) (-1)) = -1 ∧ clE 0 0 1000 3 2 exZ 0 0 (-1) (-1) = 0 := by decide +kernel
theorem kn_ord : ordS exZ [0, 1, 2, 3, 4, 5] = [1, 4, 3, 5, 0, 2] := by
  unfold ordS
  rw [dif_pos (by decide)]
  have h1 := stO_perm exZ (by decide) [0, 1, 2, 3, 4, 5] (by decide)
  have h2 := stO_sorted exZ (by decide) [0, 1, 2, 3, 4, 5] (by decide) (by decide)
  have h3 : ([1, 4, 3, 5, 0, 2] : List Int).Perm [0, 1, 2, 3, 4, 5] := by decide
  have h4 : ([1, 4, 3, 5, 0, 2] : List Int).Pairwise (ltS exZ) := by unfold ltS; decide
  exact List.Perm.eq_of_pairwise (le := ltS exZ) (fun a b _ _ h h' => absurd h' (by unfold ltS at *; omega)) h2 h4 (h1.trans h3.symm)
theorem kn_m1 : mostQ exZ (askE 0 0 1000 3 2 exZ 0 2999999 0 1999999 0 300000) 300000 (cellsL 0 0 1000 3 2 0 2999999 0 1999999) (cellsM 0 0 1000 3 2 0 2999999 0 1999999) = [(1, 300000), (3, 300000), (4, 300000), (5, 100000)] := by
  unfold mostQ mostE
  rw [ex_cells, kn_ord]
  decide +kernel
theorem kn_m1n : mostO exZ (askE 0 0 1000 3 2 exZ 0 2999999 0 1999999 0 300000) 300000 (cellsL 0 0 1000 3 2 0 2999999 0 1999999) (cellsM 0 0 1000 3 2 0 2999999 0 1999999) = 0 ∧ mostP exZ (askE 0 0 1000 3 2 exZ 0 2999999 0 1999999 0 300000) 300000 (cellsL 0 0 1000 3 2 0 2999999 0 1999999) (cellsM 0 0 1000 3 2 0 2999999 0 1999999) = 7 ∧
    mostN exZ (askE 0 0 1000 3 2 exZ 0 2999999 0 1999999 0 300000) 300000 (cellsL 0 0 1000 3 2 0 2999999 0 1999999) (cellsM 0 0 1000 3 2 0 2999999 0 1999999) = 66700000 ∧ mostE exZ (askE 0 0 1000 3 2 exZ 0 2999999 0 1999999 0 300000) 300000 (cellsL 0 0 1000 3 2 0 2999999 0 1999999) (cellsM 0 0 1000 3 2 0 2999999 0 1999999) = 0 := by
  unfold mostO mostP mostN mostE
  rw [ex_cells, kn_ord]
  decide +kernel
theorem kn_m2 : mostE exZ (askE 0 0 1000 3 2 exZ 0 0 0 0 0 300000) 300000 (cellsL 0 0 1000 3 2 0 0 0 0) (cellsM 0 0 1000 3 2 0 0 0 0) = 9 := by decide +kernel
theorem kn_m3 : mostQ exZ (askE 0 0 1000 3 2 exZ (-1) 0 0 0 0 300000) 300000 (cellsL 0 0 1000 3 2 (-1) 0 0 0) (cellsM 0 0 1000 3 2 (-1) 0 0 0) = [(0, 300000)] := by decide +kernel
theorem kn_m3n : mostO exZ (askE 0 0 1000 3 2 exZ (-1) 0 0 0 0 300000) 300000 (cellsL 0 0 1000 3 2 (-1) 0 0 0) (cellsM 0 0 1000 3 2 (-1) 0 0 0) = 700000 ∧ mostP exZ (askE 0 0 1000 3 2 exZ (-1) 0 0 0 0 300000) 300000 (cellsL 0 0 1000 3 2 (-1) 0 0 0) (cellsM 0 0 1000 3 2 (-1) 0 0 0) = 0 ∧
    mostN exZ (askE 0 0 1000 3 2 exZ (-1) 0 0 0 0 300000) 300000 (cellsL 0 0 1000 3 2 (-1) 0 0 0) (cellsM 0 0 1000 3 2 (-1) 0 0 0) = 1500000 ∧ mostE exZ (askE 0 0 1000 3 2 exZ (-1) 0 0 0 0 300000) 300000 (cellsL 0 0 1000 3 2 (-1) 0 0 0) (cellsM 0 0 1000 3 2 (-1) 0 0 0) = 0 := by decide +kernel
theorem kn_p1 : prvN exZ (askE 0 0 1000 3 2 exZ 0 2999999 0 1999999 0 300000) 300000 (cellsL 0 0 1000 3 2 0 2999999 0 1999999) (cellsM 0 0 1000 3 2 0 2999999 0 1999999) [(1, 300000), (3, 300000), (4, 300000), (5, 100000)] 0 7 = 66700000 ∧ prvE exZ (askE 0 0 1000 3 2 exZ 0 2999999 0 1999999 0 300000) 300000 (cellsL 0 0 1000 3 2 0 2999999 0 1999999) (cellsM 0 0 1000 3 2 0 2999999 0 1999999) [(1, 300000), (3, 300000), (4, 300000), (5, 100000)] 0 7 = 0 := by decide +kernel
theorem kn_p2 : prvE exZ (askE 0 0 1000 3 2 exZ 0 2999999 0 1999999 0 300000) 300000 (cellsL 0 0 1000 3 2 0 2999999 0 1999999) (cellsM 0 0 1000 3 2 0 2999999 0 1999999) [(1, 200000), (3, 300000), (4, 300000), (5, 200000)] 0 7 = 142 := by decide +kernel
theorem kn_p3 : prvE exZ (askE 0 0 1000 3 2 exZ 0 2999999 0 1999999 0 300000) 300000 (cellsL 0 0 1000 3 2 0 2999999 0 1999999) (cellsM 0 0 1000 3 2 0 2999999 0 1999999) [(1, 300000), (3, 300000), (4, 300000), (5, 100000)] 0 8 = 142 := by decide +kernel
def knI : Impact := ⟨0, 0, 2999999, 0, 1999999, 0, 0⟩
theorem kn_mE : mE 0 0 1000 3 2 exZ 0 2999999 0 1999999 10 300000 = 0 := by
  unfold mE mostE
  rw [ex_cells, kn_ord]
  decide +kernel
theorem kn_mN : mN 0 0 1000 3 2 exZ 0 2999999 0 1999999 10 300000 = 66700000 := by
  unfold mN mostN mostE
  rw [ex_cells, kn_ord]
  decide +kernel
theorem kn_rE : riskE 0 0 1000 3 2 exZ [knI] [(10, 300000)] = 0 := by
  have h0 : strangeI knI = false := by decide
  have h1 : rkE 0 0 1000 3 2 exZ (knI, (10, 300000)) = 0 := by
    unfold rkE
    rw [if_neg (by rw [h0]; simp)]
    exact kn_mE
  unfold riskE
  rw [if_neg (by decide), if_neg (by decide), if_neg (by decide)]
  show (if rkE 0 0 1000 3 2 exZ (knI, (10, 300000)) = 0 then 0 else rkE 0 0 1000 3 2 exZ (knI, (10, 300000))) = 0
  rw [if_pos h1]
theorem kn_r : riskN 0 0 1000 3 2 exZ [knI] [(10, 300000)] = 667000000 ∧ riskD 0 0 1000 3 2 exZ [knI] [(10, 300000)] = 1000000000000 ∧ riskE 0 0 1000 3 2 exZ [knI] [(10, 300000)] = 0 := by
  refine ⟨?_, ?_, kn_rE⟩
  · unfold riskN
    rw [if_pos kn_rE]
    show mN 0 0 1000 3 2 exZ 0 2999999 0 1999999 10 300000 * 10 + 0 = 667000000
    rw [kn_mN]
    rfl
  · unfold riskD
    rw [if_pos kn_rE]
    rfl
def ferryN : List UInt8 := [102, 101, 114, 114, 121]
theorem kn_w1 : WhE ferryN 500 0 0 0 100 ferryS = 0 ∧ whXL 500 100 ferryS = -1000 ∧ whXH 500 100 ferryS = 1000 ∧ whYL 500 100 ferryS = -1000 ∧ whYH 500 100 ferryS = 1000 ∧ whZL 0 0 100 ferryS = 0 ∧ whZH 0 0 100 ferryS = 0 := by decide +kernel
theorem kn_w2 : WhE ferryN 500 0 0 0 150 ferryS = 0 ∧ whXL 500 150 ferryS = 15000 ∧ whXH 500 150 ferryS = 26000 ∧ whYL 500 150 ferryS = -25000 ∧ whYH 500 150 ferryS = 25000 ∧ whZL 0 0 150 ferryS = 0 ∧ whZH 0 0 150 ferryS = 0 := by decide +kernel
theorem kn_w3 : WhE ferryN 500 0 0 0 250 ferryS = 0 ∧ whXL 500 250 ferryS = 15000 ∧ whXH 500 250 ferryS = 65000 ∧ whYL 500 250 ferryS = -25000 ∧ whYH 500 250 ferryS = 25000 ∧ whZL 0 0 250 ferryS = 0 ∧ whZH 0 0 250 ferryS = 0 := by decide +kernel
def knLine : List UInt8 := [78, 79, 84, 73, 67, 69, 32, 49, 55, 32, 70, 82, 79, 77, 32, 49, 50, 48, 32, 85, 78, 84, 73, 76, 32, 51, 54, 48, 32, 88, 32, 45, 49, 32, 49, 32, 89, 32, 45, 49, 32, 49]
def knCanc : List UInt8 := [67, 65, 78, 67, 69, 76, 32, 49, 55]
theorem kn_f1 : fcE [knLine, knCanc] 200 = 0 ∧ (fcL [knLine, knCanc] 200).length = 0 := by decide +kernel
end Go.Proofs.YtmglbegbijofkaaGreatDoor
