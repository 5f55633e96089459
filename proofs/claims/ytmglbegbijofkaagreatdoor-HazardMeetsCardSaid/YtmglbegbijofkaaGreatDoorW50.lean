import Derived.Test.YtmglbegbijofkaaGreatDoorW43
import Derived.Test.YtmglbegbijofkaaGreatDoorW22
set_option linter.unusedVariables false
set_option linter.unusedSimpArgs false
namespace Go.Proofs.YtmglbegbijofkaaGreatDoor
open Go.RowKit
theorem shIn_len (c : Craft) (i : Nat) (l : List Impact) : ∀ (n k : Nat) (acc : List (Int × Int × Int)), (shIn c i l n k acc).2.length ≤ acc.length + n
  | 0, _, acc => by simp [shIn]
  | n + 1, k, acc => by
    simp only [shIn]
    split
    · simp
    · have h := shIn_len c i l n (k + 1) (shAdd i k (fT c (imAt l k)) acc)
      have : (shAdd i k (fT c (imAt l k)) acc).length ≤ acc.length + 1 := by unfold shAdd; split <;> simp
      omega
theorem shOut_len (cs : List Craft) (l : List Impact) : ∀ (n i : Nat) (acc : List (Int × Int × Int)), (shOut cs l n i acc).2.length ≤ acc.length + n * l.length
  | 0, _, acc => by simp [shOut]
  | n + 1, i, acc => by
    simp only [shOut]
    split
    · simp
    · have h := shOut_len cs l n (i + 1) (shIn (crAt cs i) i l l.length 0 acc).2
      have h2 := shIn_len (crAt cs i) i l l.length 0 acc
      rw [Nat.succ_mul]
      omega
theorem shipsR_len (cs : List Craft) (l : List Impact) : (shipsR l cs).2.length ≤ 1000000 := by
  unfold shipsR
  split
  · simp
  · split
    · simp
    · split
      · simp
      · have h := shOut_len cs l cs.length 0 []
        have : cs.length * l.length ≤ 12 * 12 := Nat.mul_le_mul (by omega) (by omega)
        simp only [List.length_nil] at h
        omega
theorem mtOut_len (l : List St) (fr : Int) (cs : List Craft) : ∀ (n i : Nat) (acc : List (Int × Int × Int)), (mtOut l fr cs n i acc).2.length ≤ acc.length + n
  | 0, _, acc => by simp [mtOut]
  | n + 1, i, acc => by
    simp only [mtOut]
    split
    · simp
    · have h := mtOut_len l fr cs n (i + 1) (mtAdd i (gT l fr (crAt cs i)) acc)
      have : (mtAdd i (gT l fr (crAt cs i)) acc).length ≤ acc.length + 1 := by unfold mtAdd; split <;> simp
      omega
theorem meetsR_len (l : List St) (fr : Int) (cs : List Craft) : (meetsR l fr cs).2.length ≤ 1000000 := by
  unfold meetsR
  split
  · simp
  · split
    · simp
    · split
      · simp
      · split
        · simp
        · have h := mtOut_len l fr cs cs.length 0 []
          simp only [List.length_nil] at h
          omega
set_option maxRecDepth 100000 in
set_option maxHeartbeats 800000 in
theorem law12 (vl vc vs : Value) (l : List Impact) (cs : List Craft) (ls : List St) (fr : Int) (w : World) (hl : ImpactsAt w vl l) (hc : CraftsAt w vc cs) (hs : StatesAt w vs ls) (h1 : l.length ≤ 9223372036854775806) (h2 : cs.length ≤ 9223372036854775806) (h3 : ls.length ≤ 9223372036854775806) (ht : Tab10 w) :
    Calls Tryz.prog 12 #[vl, vc, .agg #[vs, .int .i64 fr]] w fun e w' => e = .returned (.bool true) ∧ Below w.heap.size w w' := by
  obtain ⟨al, cl, rfl, hx⟩ := id hl
  obtain ⟨ac, cc, rfl, hy⟩ := id hc.row
  obtain ⟨as1, cs1, rfl, hz⟩ := id hs
  clear hx hy hz
  have HL := Lib.hid hl
  have HCR := Lib.hid hc
  have HS := Lib.hid hs
  have HT := Lib.hid ht
  clear hl hc hs ht
  have HS1 := Lib.hid (fun W (h : ImpactsAt W (.slice al l.length cl) l) (h' : CraftsAt W (.slice ac cs.length cc) cs) => ships_any _ _ l cs W h h' h1 h2)
  have HS2 := Lib.hid (fun W (h : ImpactsAt W (.slice al l.length cl) l) (h' : CraftsAt W (.slice ac cs.length cc) cs) => rships_any _ _ l cs W h h' h1 h2)
  have HM1 := Lib.hid (fun W (h : StatesAt W (.slice as1 ls.length cs1) ls) (h' : CraftsAt W (.slice ac cs.length cc) cs) => meets_any _ _ ls fr cs W h h' h3 h2)
  have HM2 := Lib.hid (fun W (h : StatesAt W (.slice as1 ls.length cs1) ls) (h' : CraftsAt W (.slice ac cs.length cc) cs) => rmeetsL_any _ _ ls fr cs W h h' h3 h2)
  have hn1 := shipsR_len cs l
  have hn2 := meetsR_len ls fr cs
  unfold MeetsPost at HS1 HS2 HM1 HM2
  generalize shipsR l cs = R1 at *
  generalize meetsR ls fr cs = R2 at *
  obtain ⟨E1, M1⟩ := R1
  obtain ⟨E2, M2⟩ := R2
  simp only at HS1 HS2 HM1 HM2 hn1 hn2
  go_enter Tryz.func12, Tryz.ntmps12
  go_wp2_with fail
  have hF := cellsNew w #[.slice as1 ls.length cs1, .int .i64 fr] 103
  have hB : Below w.heap.size w (w.alloc (.cells #[.slice as1 ls.length cs1, .int .i64 fr] 103)) := (by repeat (first | exact Below.refl _ _ | assumption | refine balloc ?_ _ | refine below_trans ?_ (by assumption) | refine Below.drew ?_ | refine below_drewN ?_ _ | refine Below.setCell ?_ (by simp <;> omega) _))
  generalize w.alloc (.cells #[.slice as1 ls.length cs1, .int .i64 fr] 103) = W0 at *
  refine (HS1.out _ (HL.out.below hB) (HCR.out.below hB)).mono ?_
  rintro e w1 ⟨v1, rfl, ho1, hb1⟩
  have hF := hF.below hb1
  have hB := below_trans hB hb1
  have HI1 := Lib.hid (mt_at_row ho1)
  clear ho1
  go_wp2_with fail
  refine (HS2.out _ (HL.out.below hB) (HCR.out.below hB)).mono ?_
  rintro e w2 ⟨v2, rfl, ho2, hb2⟩
  have hF := hF.below hb2
  have hB := below_trans hB hb2
  have HI1 := Lib.hid (HI1.out.below hb2)
  have HI2 := Lib.hid (mt_at_row ho2)
  clear ho2
  go_wp2_with fail
  refine (sameMeets_same v1 v2 M1 w2 HI1.out HI2.out hn1).mono ?_
  rintro e w3 ⟨rfl, hb3⟩
  have hF := hF.below hb3
  have hB := below_trans hB hb3
  clear HI1 HI2
  obtain ⟨f0, f1⟩ := cells2 hF
  go_wp2_with fail
  refine (HM1.out _ (HS.out.below hB) (HCR.out.below hB)).mono ?_
  rintro e w4 ⟨v3, rfl, ho3, hb4⟩
  clear f0 f1
  have hF := hF.below hb4
  have hB := below_trans hB hb4
  have HI1 := Lib.hid (mt_at_row ho3)
  clear ho3
  obtain ⟨f0, f1⟩ := cells2 hF
  go_wp2_with fail
  refine (HM2.out _ (HS.out.below hB) (HCR.out.below hB)).mono ?_
  rintro e w5 ⟨v4, rfl, ho4, hb5⟩
  clear f0 f1
  have hB := below_trans hB hb5
  have HI1 := Lib.hid (HI1.out.below hb5)
  have HI2 := Lib.hid (mt_at_row ho4)
  clear ho4
  go_wp2_with fail
  refine (sameMeets_same v3 v4 M2 w5 HI1.out HI2.out hn2).mono ?_
  rintro e w6 ⟨rfl, hb6⟩
  have hB := below_trans hB hb6
  go_wp2_with fail
  refine (awake_true _ (HT.out.below hB)).mono ?_
  rintro e w7 ⟨rfl, hb7⟩
  go_wp2_with fail
  go_ret
  exact ⟨rfl, below_trans hB hb7⟩
end Go.Proofs.YtmglbegbijofkaaGreatDoor
