import Derived.Test.YtmglbegbijofkaaGreatDoorW22
import Derived.Test.YtmglbegbijofkaaGreatDoorPA
set_option linter.unusedVariables false
set_option linter.unusedSimpArgs false
namespace Go.Proofs.YtmglbegbijofkaaGreatDoor
open Go.RowKit Go.Shelf Go.Sort

def riskB (n d : Int) : Bool := !outB n 0 1000000000000000000 && !outB d 1 1000000000000000000
set_option maxHeartbeats 400000 in
theorem risk_any (n d : Int) (w : World) :
    Calls Tryz.prog 107 #[.agg #[.int .i64 n, .int .i64 d]] w fun e w' => e = .returned (.bool (riskB n d)) ∧ Below w.heap.size w w' := by
  go_enter Tryz.func107, Tryz.ntmps107
  go_wp2_with (go_at_call 69; refine (in_any _ _ _ _).mono ?_; rintro e w' ⟨rfl, rfl⟩)
  all_goals (go_ret; exact ⟨ret_bool (by simp [riskB, *]), (by repeat (first | exact Below.refl _ _ | assumption | refine balloc ?_ _ | refine below_trans ?_ (by assumption) | refine Below.drew ?_ | refine below_drewN ?_ _ | refine Below.setCell ?_ (by simp <;> omega) _))⟩)
set_option maxRecDepth 100000 in
set_option maxHeartbeats 800000 in
theorem most_rec : ∀ (m : Nat) (a b c d : Int) (w : World), (b + d).toNat ≤ m → 0 ≤ a → a ≤ 1000000000000000000 → 1 ≤ b → b ≤ 1000000000000000000 → 0 ≤ c → c ≤ 1000000000000000000 → 1 ≤ d → d ≤ 1000000000000000000 →
    Calls Tryz.prog 108 #[.int .i64 a, .int .i64 b, .int .i64 c, .int .i64 d] w fun e w' => e = .returned (.bool (decide (a * d ≤ c * b))) ∧ ∃ n, w' = w.drewN n := by
  intro m
  induction m with
  | zero => intro a b c d w h1 h2 h3 h4 h5 h6 h7 h8 h9; omega
  | succ m ih =>
    intro a b c d w h1 h2 h3 h4 h5 h6 h7 h8 h9
    have IH := Lib.hid ih
    clear ih
    have nb : ¬ b = 0 := by omega
    have nd : ¬ d = 0 := by omega
    have q1 : IntKind.i64.wrap (a.tdiv b) = a / b := by rw [Int.tdiv_eq_ediv_of_nonneg h2]; exact IntWalk.i64_in _ ⟨by have := Int.ediv_nonneg h2 (show 0 ≤ b by omega); omega, by have := Int.ediv_le_self b h2; omega⟩
    have q2 : IntKind.i64.wrap (c.tdiv d) = c / d := by rw [Int.tdiv_eq_ediv_of_nonneg h6]; exact IntWalk.i64_in _ ⟨by have := Int.ediv_nonneg h6 (show 0 ≤ d by omega); omega, by have := Int.ediv_le_self d h6; omega⟩
    have r1 : a.tmod b = a % b := Int.tmod_eq_emod_of_nonneg h2
    have r2 : c.tmod d = c % d := Int.tmod_eq_emod_of_nonneg h6
    have e1 := Int.emod_nonneg a nb
    have e2 := Int.emod_lt_of_pos a (show 0 < b by omega)
    have e3 := Int.emod_nonneg c nd
    have e4 := Int.emod_lt_of_pos c (show 0 < d by omega)
    go_enter Tryz.func108, Tryz.ntmps108
    go_wp2_with fail
    go_quiet (fail)
    by_cases hq : a / b = c / d
    · have hne : (a / b != c / d) = false := by simpa using hq
      have HQ := Lib.hid (fr_eq a b c d hq)
      clear hq
      go_wp2_with fail
      go_quiet (fail)
      clear q1 q2 r1 r2
      have f1 : 0 ≤ a % b * d := Int.mul_nonneg e1 (by omega)
      have f2 : 0 ≤ c % d * b := Int.mul_nonneg e3 (by omega)
      by_cases z1 : a % b = 0
      · have HZ : Hid (decide (a * d ≤ c * b) = true) := show _ = _ from by rw [decide_eq_true_eq, HQ.out, z1]; omega
        have z1' : (a % b == 0) = true := by simpa using z1
        clear z1 f1 f2
        go_wp2_with fail
        go_ret
        exact ⟨ret_bool HZ.out.symm, _, rfl⟩
      · have z1' : (a % b == 0) = false := by simpa using z1
        have z1p : 1 ≤ a % b := by omega
        have f3 : 1 ≤ a % b * d := by
          have := Int.mul_le_mul z1p h8 (by omega) (by omega)
          omega
        by_cases z2 : c % d = 0
        · have HZ : Hid (decide (a * d ≤ c * b) = false) := show _ = _ from by rw [decide_eq_false_iff_not, HQ.out, z2]; omega
          have z2' : (c % d == 0) = true := by simpa using z2
          clear z1 z2 f1 f2 f3
          go_wp2_with fail
          go_ret
          exact ⟨ret_bool HZ.out.symm, _, rfl⟩
        · have z2' : (c % d == 0) = false := by simpa using z2
          have z2p : 1 ≤ c % d := by omega
          have HZ : Hid (decide (d * (a % b) ≤ b * (c % d)) = decide (a * d ≤ c * b)) := show _ = _ from by rw [decide_eq_decide, fr_swap, HQ.out]
          have HC := Lib.hid (fun W => IH.out d (c % d) b (a % b) W (by omega) (by omega) (by omega) (by omega) (by omega) (by omega) (by omega) (by omega) (by omega))
          clear z1 z2 f1 f2 f3 IH
          generalize a % b = x at *
          generalize c % d = y at *
          go_wp2_with fail
          refine (HC.out _).mono ?_
          rintro e w5 ⟨rfl, n5, rfl⟩
          go_wp2_with fail
          go_ret
          exact ⟨ret_bool HZ.out, _, rfl⟩
    · have hne : (a / b != c / d) = true := by simpa using hq
      have HZ : Hid (decide (a / b < c / d) = decide (a * d ≤ c * b)) := show _ = _ from by
        rw [decide_eq_decide]
        constructor
        · intro h; have := fr_lt a b c d (by omega) (by omega) h; omega
        · intro h
          by_cases hlt : a / b < c / d
          · exact hlt
          · have := fr_lt c d a b (by omega) (by omega) (by omega); omega
      clear hq
      go_wp2_with fail
      go_quiet (fail)
      clear q1 q2 r1 r2
      go_wp2_with fail
      go_ret
      exact ⟨ret_bool HZ.out, _, by rw [World.drewN_drewN]⟩

theorem riskB_true {n d : Int} (h : riskB n d = true) : 0 ≤ n ∧ n ≤ 1000000000000000000 ∧ 1 ≤ d ∧ d ≤ 1000000000000000000 := by
  unfold riskB at h
  simp only [Bool.and_eq_true, Bool.not_eq_true'] at h
  obtain ⟨h1, h2⟩ := h
  obtain ⟨a, b⟩ := outB_false.1 h1
  obtain ⟨c, d⟩ := outB_false.1 h2
  exact ⟨a, b, c, d⟩
/-- what Within returns -/
def withB (an ad bn bd : Int) : Bool := riskB an ad && riskB bn bd && decide (an * bd ≤ bn * ad)
def withE (an ad bn bd : Int) : Int := if riskB an ad && riskB bn bd then 0 else 2
set_option maxRecDepth 100000 in
set_option maxHeartbeats 800000 in
theorem rwithin_any (an ad bn bd : Int) (w : World) :
    Calls Tryz.prog 44 #[.agg #[.int .i64 an, .int .i64 ad], .agg #[.int .i64 bn, .int .i64 bd]] w fun e w' => e = .returned (.tuple #[.bool (withB an ad bn bd), .int .i64 (withE an ad bn bd)]) ∧ Below w.heap.size w w' := by
  have HR1 := Lib.hid (fun W => risk_any an ad W)
  have HR2 := Lib.hid (fun W => risk_any bn bd W)
  cases h1 : riskB an ad
  · have HE : Hid (withB an ad bn bd = false ∧ withE an ad bn bd = 2) := show _ ∧ _ from ⟨by simp [withB, h1], by simp [withE, h1]⟩
    rw [h1] at HR1
    clear h1
    go_enter Tryz.func44, Tryz.ntmps44
    go_wp2_with fail
    refine (HR1.out _).mono ?_
    rintro e w1 ⟨rfl, hb1⟩
    go_wp2_with fail
    go_ret2
    rw [HE.out.1, HE.out.2]
    exact ⟨rfl, below_trans (by repeat (first | exact Below.refl _ _ | assumption | refine balloc ?_ _ | refine below_trans ?_ (by assumption) | refine Below.drew ?_ | refine below_drewN ?_ _ | refine Below.setCell ?_ (by simp <;> omega) _)) hb1⟩
  · cases h2 : riskB bn bd
    · have HE : Hid (withB an ad bn bd = false ∧ withE an ad bn bd = 2) := show _ ∧ _ from ⟨by simp [withB, h2], by simp [withE, h2]⟩
      rw [h1] at HR1
      rw [h2] at HR2
      clear h1 h2
      go_enter Tryz.func44, Tryz.ntmps44
      go_wp2_with fail
      refine (HR1.out _).mono ?_
      rintro e w1 ⟨rfl, hb1⟩
      obtain ⟨hc, hf⟩ := bcell hb1
      have hz := hb1.size
      simp at hz
      go_wp2_with fail
      refine (HR2.out _).mono ?_
      rintro e w2 ⟨rfl, hb2⟩
      go_wp2_with fail
      go_ret2
      rw [HE.out.1, HE.out.2]
      exact ⟨rfl, below_trans (below_trans (by repeat (first | exact Below.refl _ _ | assumption | refine balloc ?_ _ | refine below_trans ?_ (by assumption) | refine Below.drew ?_ | refine below_drewN ?_ _ | refine Below.setCell ?_ (by simp <;> omega) _)) hb1) hb2⟩
    · have HE : Hid (withB an ad bn bd = decide (an * bd ≤ bn * ad) ∧ withE an ad bn bd = 0) := show _ ∧ _ from ⟨by simp [withB, h1, h2], by simp [withE, h1, h2]⟩
      obtain ⟨a1, a2, a3, a4⟩ := riskB_true h1
      obtain ⟨b1, b2, b3, b4⟩ := riskB_true h2
      have HM := Lib.hid (fun W => most_rec (ad + bd).toNat an ad bn bd W (Nat.le_refl _) a1 a2 a3 a4 b1 b2 b3 b4)
      rw [h1] at HR1
      rw [h2] at HR2
      clear h1 h2
      go_enter Tryz.func44, Tryz.ntmps44
      go_wp2_with fail
      obtain ⟨hA0, hB0, hz0, hb0⟩ := alloc2 w #[.int .i64 an, .int .i64 ad] #[.int .i64 bn, .int .i64 bd] 94 94
      clear hz0
      generalize (w.alloc (.cells #[.int .i64 an, .int .i64 ad] 94)).alloc (.cells #[.int .i64 bn, .int .i64 bd] 94) = W0 at *
      refine (HR1.out _).mono ?_
      rintro e w1 ⟨rfl, hb1⟩
      have hA1 := hA0.below hb1
      have hB1 := hB0.below hb1
      obtain ⟨c0, c1⟩ := cells2 hB1
      go_wp2_with fail
      refine (HR2.out _).mono ?_
      rintro e w2 ⟨rfl, hb2⟩
      clear c0 c1
      obtain ⟨c0, c1⟩ := cells2 (hB1.below hb2)
      obtain ⟨d0, d1⟩ := cells2 (hA1.below hb2)
      go_wp2_with fail
      refine (HM.out _).mono ?_
      rintro e w3 ⟨rfl, n3, rfl⟩
      go_wp2_with fail
      go_ret2
      rw [HE.out.1, HE.out.2]
      exact ⟨rfl, below_drewN' (below_trans (below_trans hb0 hb1) hb2) _⟩

/-- two products of 64 bits, compared by their halves -/
theorem halves (x y : Nat) : (decide ((x / 18446744073709551616 : Nat) < (y / 18446744073709551616 : Nat)) || (decide ((x / 18446744073709551616 : Nat) = (y / 18446744073709551616 : Nat)) && decide (x % 18446744073709551616 ≤ y % 18446744073709551616))) = decide (x ≤ y) := by
  rw [Bool.eq_iff_iff]
  simp only [Bool.or_eq_true, Bool.and_eq_true, decide_eq_true_eq]
  omega
set_option maxRecDepth 100000 in
set_option maxHeartbeats 800000 in
theorem within_any (an ad bn bd : Int) (w : World) :
    Calls Tryz.prog 43 #[.agg #[.int .i64 an, .int .i64 ad], .agg #[.int .i64 bn, .int .i64 bd]] w fun e w' => e = .returned (.tuple #[.bool (withB an ad bn bd), .int .i64 (withE an ad bn bd)]) ∧ Below w.heap.size w w' := by
  have hix0 : ∀ w : World, (Instr.index 174 (.agg #[.int .i64 an, .int .i64 ad, .int .i64 bn, .int .i64 bd]) (.int .i64 0)).run Tryz.prog w = .ok (.agg #[.int .i64 an, .int .i64 ad]) w := fun _ => by kernel_rfl
  have hix1 : ∀ w : World, (Instr.index 174 (.agg #[.int .i64 an, .int .i64 ad, .int .i64 bn, .int .i64 bd]) (.int .i64 1)).run Tryz.prog w = .ok (.agg #[.int .i64 bn, .int .i64 bd]) w := fun _ => by kernel_rfl
  go_enter Tryz.func43, Tryz.ntmps43
  go_wp2_with fail
  obtain ⟨hA0, hB0, hz0, hb0⟩ := alloc2 w #[.int .i64 an, .int .i64 ad] #[.int .i64 bn, .int .i64 bd] 94 94
  clear hz0
  have HA0 := Lib.hid hA0
  have HB0 := Lib.hid hB0
  clear hA0 hB0
  generalize (w.alloc (.cells #[.int .i64 an, .int .i64 ad] 94)).alloc (.cells #[.int .i64 bn, .int .i64 bd] 94) = W0 at *
  go_loopw [15] (fun i wr => ∃ k : Nat, k ≤ 2 ∧ i = .int .i64 k ∧ Hid (1 ≤ k → riskB an ad = true) ∧ Hid (2 ≤ k → riskB bn bd = true) ∧ Below W0.heap.size W0 wr) (fun i _ => 2 - (intOf i).toNat)
  case atStart => exact ⟨0, by omega, rfl, (fun h => by omega), (fun h => by omega), Below.refl _ _⟩
  case round =>
    obtain ⟨k, hk, rfl, H1, H2, hBW⟩ := hrel
    have hk3 : k = 0 ∨ k = 1 ∨ k = 2 := by omega
    rcases hk3 with rfl | rfl | rfl
    ·
      have HO1 := Lib.hid (fun W => out_any an 0 1000000000000000000 W)
      have HO2 := Lib.hid (fun W => out_any ad 1 1000000000000000000 W)
      cases o1 : outB an 0 1000000000000000000
      · cases o2 : outB ad 1 1000000000000000000
        · have HRK : Hid (riskB an ad = true) := show _ = _ from by simp [riskB, o1, o2]
          rw [o1] at HO1
          rw [o2] at HO2
          clear o1 o2
          go_wp2_with fail
          refine (HO1.out _).mono ?_
          rintro e w1 ⟨rfl, rfl⟩
          go_wp2_with fail
          refine (HO2.out _).mono ?_
          rintro e w1 ⟨rfl, rfl⟩
          go_wp2_with fail
          go_roundw
          case rel => exact ⟨0 + 1, by omega, by go_num, (fun _ => by first | exact HRK.out | exact H1.out (by omega)), (fun h => by first | omega | exact HRK.out), balloc hBW _⟩
          case measure => simp [intOf]
        · have HRK : Hid (withB an ad bn bd = false ∧ withE an ad bn bd = 2) := show _ ∧ _ from by
            have h : riskB an ad = false := by simp [riskB, o1, o2]
            exact ⟨by simp [withB, h], by simp [withE, h]⟩
          rw [o1] at HO1
          rw [o2] at HO2
          clear o1 o2
          go_wp2_with fail
          refine (HO1.out _).mono ?_
          rintro e w1 ⟨rfl, rfl⟩
          go_wp2_with fail
          refine (HO2.out _).mono ?_
          rintro e w1 ⟨rfl, rfl⟩
          go_wp2_with fail
          go_ret2
          rw [HRK.out.1, HRK.out.2]
          exact ⟨rfl, balloc (below_trans hb0 hBW) _⟩
      · have HRK : Hid (withB an ad bn bd = false ∧ withE an ad bn bd = 2) := show _ ∧ _ from by
          have h : riskB an ad = false := by simp [riskB, o1]
          exact ⟨by simp [withB, h], by simp [withE, h]⟩
        rw [o1] at HO1
        clear o1
        go_wp2_with fail
        refine (HO1.out _).mono ?_
        rintro e w1 ⟨rfl, rfl⟩
        go_wp2_with fail
        go_ret2
        rw [HRK.out.1, HRK.out.2]
        exact ⟨rfl, balloc (below_trans hb0 hBW) _⟩
    ·
      have HO1 := Lib.hid (fun W => out_any bn 0 1000000000000000000 W)
      have HO2 := Lib.hid (fun W => out_any bd 1 1000000000000000000 W)
      cases o1 : outB bn 0 1000000000000000000
      · cases o2 : outB bd 1 1000000000000000000
        · have HRK : Hid (riskB bn bd = true) := show _ = _ from by simp [riskB, o1, o2]
          rw [o1] at HO1
          rw [o2] at HO2
          clear o1 o2
          go_wp2_with fail
          refine (HO1.out _).mono ?_
          rintro e w1 ⟨rfl, rfl⟩
          go_wp2_with fail
          refine (HO2.out _).mono ?_
          rintro e w1 ⟨rfl, rfl⟩
          go_wp2_with fail
          go_roundw
          case rel => exact ⟨1 + 1, by omega, by go_num, (fun _ => by first | exact HRK.out | exact H1.out (by omega)), (fun h => by first | omega | exact HRK.out), balloc hBW _⟩
          case measure => simp [intOf]
        · have HRK : Hid (withB an ad bn bd = false ∧ withE an ad bn bd = 2) := show _ ∧ _ from by
            have h : riskB bn bd = false := by simp [riskB, o1, o2]
            exact ⟨by simp [withB, h], by simp [withE, h]⟩
          rw [o1] at HO1
          rw [o2] at HO2
          clear o1 o2
          go_wp2_with fail
          refine (HO1.out _).mono ?_
          rintro e w1 ⟨rfl, rfl⟩
          go_wp2_with fail
          refine (HO2.out _).mono ?_
          rintro e w1 ⟨rfl, rfl⟩
          go_wp2_with fail
          go_ret2
          rw [HRK.out.1, HRK.out.2]
          exact ⟨rfl, balloc (below_trans hb0 hBW) _⟩
      · have HRK : Hid (withB an ad bn bd = false ∧ withE an ad bn bd = 2) := show _ ∧ _ from by
          have h : riskB bn bd = false := by simp [riskB, o1]
          exact ⟨by simp [withB, h], by simp [withE, h]⟩
        rw [o1] at HO1
        clear o1
        go_wp2_with fail
        refine (HO1.out _).mono ?_
        rintro e w1 ⟨rfl, rfl⟩
        go_wp2_with fail
        go_ret2
        rw [HRK.out.1, HRK.out.2]
        exact ⟨rfl, balloc (below_trans hb0 hBW) _⟩
    · have hA : riskB an ad = true := H1.out (by omega)
      have hB : riskB bn bd = true := H2.out (by omega)
      have HE : Hid (withB an ad bn bd = decide (an * bd ≤ bn * ad) ∧ withE an ad bn bd = 0) := show _ ∧ _ from ⟨by simp [withB, hA, hB], by simp [withE, hA, hB]⟩
      obtain ⟨a1, a2, a3, a4⟩ := riskB_true hA
      obtain ⟨b1, b2, b3, b4⟩ := riskB_true hB
      clear H1 H2 hA hB hix0 hix1
      obtain ⟨x, rfl⟩ := Int.eq_ofNat_of_zero_le a1
      obtain ⟨y, rfl⟩ := Int.eq_ofNat_of_zero_le (show 0 ≤ ad by omega)
      obtain ⟨u, rfl⟩ := Int.eq_ofNat_of_zero_le b1
      obtain ⟨v, rfl⟩ := Int.eq_ofNat_of_zero_le (show 0 ≤ bd by omega)
      have HM1 := Lib.hid (fun W => Tryz.bits_Mul64 x v (by omega) (by omega) W)
      have HM2 := Lib.hid (fun W => Tryz.bits_Mul64 u y (by omega) (by omega) W)
      have HH : Hid (decide ((x : Int) * v ≤ u * y) = (decide ((x * v / 18446744073709551616 : Nat) < (u * y / 18446744073709551616 : Nat)) || (decide ((x * v / 18446744073709551616 : Nat) = (u * y / 18446744073709551616 : Nat)) && decide (x * v % 18446744073709551616 ≤ u * y % 18446744073709551616)))) := show _ = _ from by
        rw [halves (x * v) (u * y), decide_eq_decide]
        rw [← Int.natCast_mul, ← Int.natCast_mul, Int.ofNat_le]
      have hA2 := HA0.out.below hBW
      have hB2 := HB0.out.below hBW
      obtain ⟨c0, c1⟩ := cells2 hA2
      obtain ⟨d0, d1⟩ := cells2 hB2
      generalize x * v / 18446744073709551616 = P at *
      generalize x * v % 18446744073709551616 = Q at *
      generalize u * y / 18446744073709551616 = R at *
      generalize u * y % 18446744073709551616 = S at *
      clear hA2 hB2
      go_wp2_with fail
      refine (HM1.out _).mono ?_
      rintro e w1 ⟨rfl, rfl⟩
      go_wp2_with fail
      refine (HM2.out _).mono ?_
      rintro e w1 ⟨rfl, rfl⟩
      go_wp2_with fail
      all_goals
        go_ret2
        rw [HE.out.1, HE.out.2, HH.out]
        refine ⟨ret_tup2 (congrArg Value.bool ?_) rfl, below_trans hb0 hBW⟩
        rw [Bool.eq_iff_iff]
        simp only [Bool.or_eq_true, Bool.and_eq_true, decide_eq_true_eq, true_iff, iff_true]
        omega
end Go.Proofs.YtmglbegbijofkaaGreatDoor
