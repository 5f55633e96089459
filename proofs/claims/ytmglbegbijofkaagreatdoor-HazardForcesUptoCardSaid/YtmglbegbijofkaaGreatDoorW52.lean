import Derived.Test.YtmglbegbijofkaaGreatDoorW4
import Derived.Test.YtmglbegbijofkaaGreatDoorPl18
import Derived.Laws.IdiomStrings
import Derived.Lib.ItoaLen
set_option linter.unusedVariables false
set_option linter.unusedSimpArgs false
namespace Go.Proofs.YtmglbegbijofkaaGreatDoor
open Go.RowKit
theorem str_app (a b : List UInt8) : (⟨a.toArray⟩ : ByteArray) ++ ⟨b.toArray⟩ = ⟨(a ++ b).toArray⟩ := by
  apply ByteArray.ext
  simp
theorem decDigits_len (u : Nat) (h : u ≤ 1000000000000000000) : (Lib.decDigits u).length ≤ 21 := by
  have h1 := Lib.itoa_length_le (u : Int) (by omega) (by omega)
  rwa [Lib.itoa_nonneg] at h1
theorem dconv (r : Nat) (c : UInt8) (hc : c.toNat = 48 + r) (w : World) : (convert 156 9 (.slice (some ⟨w.heap.size, 0, none⟩) 1 1)).run Tryz.prog (w.alloc (.cells #[.int .u8 (48 + (r : Int))] 5)) = .ok (.string ⟨#[c]⟩) (w.alloc (.cells #[.int .u8 (48 + (r : Int))] 5)) := by
  have h := run_convert_bytes_back (P := Tryz.prog) (w.alloc (.cells #[.int .u8 (48 + (r : Int))] 5)) 156 9 5 ⟨w.heap.size, 0, none⟩ 1 [c] Tryz.underlying156 Tryz.underlying5 Tryz.underlying9 (fun j hj => by
    have hj0 : j = 0 := by simpa using hj
    subst hj0
    simp [Addr.add, hc])
  exact h
set_option maxRecDepth 100000 in
set_option maxHeartbeats 800000 in
theorem digits71_nat : ∀ (N u : Nat), u ≤ N → u ≤ 1000000000000000000 → ∀ W : World, Calls Tryz.prog 71 #[.int .i64 u] W fun e w' => e = .returned (.string ⟨(Lib.decDigits u).toArray⟩) ∧ Below W.heap.size W w' := by
  intro N
  induction N with
  | zero =>
    intro u hu hb W
    obtain rfl : u = 0 := by omega
    have hconv := dconv 0 48 rfl
    simp only [Int.natCast_zero, Int.add_zero] at hconv
    go_enter Tryz.func71, Tryz.ntmps71
    go_wp2_with fail
    go_ret
    refine ⟨?_, (by repeat (first | exact Below.refl _ _ | assumption | refine balloc ?_ _ | refine below_trans ?_ (by assumption) | refine Below.drew ?_ | refine below_drewN ?_ _ | refine Below.setCell ?_ (by simp <;> omega) _))⟩
    rw [Lib.decDigits_one (by omega)]
    rfl
  | succ N ih =>
    intro u hu hb W
    obtain ⟨r, hr⟩ : ∃ r, r = u % 10 := ⟨_, rfl⟩
    have hr10 : r < 10 := by omega
    obtain ⟨c, hc⟩ : ∃ c : UInt8, c = UInt8.ofNat (48 + r) := ⟨_, rfl⟩
    have em : (u : Int).tmod 10 = (r : Int) := by rw [Int.tmod_eq_emod_of_nonneg (by omega)]; omega
    have hconv := dconv r c (by rw [hc]; exact ofNat_dig hr10)
    have n0 : ¬ (u : Int) < 0 := by omega
    have w8 : IntKind.u8.wrap (48 + (r : Int)) = 48 + (r : Int) := by simp [IntKind.wrap, IntKind.bits]; omega
    by_cases h10 : u < 10
    · have z10 : ¬ (10 : Int) ≤ (u : Int) := by omega
      have HE : Hid (Lib.decDigits u = [c]) := show _ = _ from by rw [Lib.decDigits_one h10, hc, hr, Nat.mod_eq_of_lt h10]
      clear ih hr hu hc
      go_enter Tryz.func71, Tryz.ntmps71
      go_wp2_with fail
      go_ret
      refine ⟨?_, (by repeat (first | exact Below.refl _ _ | assumption | refine balloc ?_ _ | refine below_trans ?_ (by assumption) | refine Below.drew ?_ | refine below_drewN ?_ _ | refine Below.setCell ?_ (by simp <;> omega) _))⟩
      rw [HE.out]
      rfl
    · have z10 : (10 : Int) ≤ (u : Int) := by omega
      obtain ⟨v, hv⟩ : ∃ v, v = u / 10 := ⟨_, rfl⟩
      have ed : (u : Int).tdiv 10 = (v : Int) := by rw [Int.tdiv_eq_ediv_of_nonneg (by omega)]; omega
      have ed2 : (u : Int) / 10 = (v : Int) := by omega
      have HI := Lib.hid (ih v (by omega) (by omega))
      have HE : Hid (Lib.decDigits u = Lib.decDigits v ++ [c]) := show _ = _ from by rw [decDigits_big h10, hc, hr, hv]
      have hDl : (Lib.decDigits v).length ≤ 21 := decDigits_len v (by omega)
      clear ih hr hu hc hv
      generalize Lib.decDigits v = D at *
      go_enter Tryz.func71, Tryz.ntmps71
      go_wp2_with fail
      with_reducible refine (HI.out _).mono ?_
      rintro e w1 ⟨rfl, hb1⟩
      have hB := below_trans (balloc (Below.refl W.heap.size W) (.cells #[.int .u8 (48 + (r : Int))] 5)) hb1
      clear hb1
      go_wp2_with fail
      go_ret
      refine ⟨?_, hB⟩
      rw [HE.out, ← str_app]
      rfl
theorem digits71_any (n : Int) (h0 : -1000000000000000000 ≤ n) (h1 : n ≤ 1000000000000000000) (W : World) : Calls Tryz.prog 71 #[.int .i64 n] W fun e w' => e = .returned (.string ⟨(Lib.itoa n).toArray⟩) ∧ Below W.heap.size W w' := by
  by_cases hn : n < 0
  · have HI := Lib.hid (digits71_nat n.natAbs n.natAbs (Nat.le_refl _) (by omega))
    have en : ((n.natAbs : Nat) : Int) = -n := by omega
    rw [en] at HI
    have HE : Hid (Lib.itoa n = 45 :: Lib.decDigits n.natAbs) := show _ = _ from by unfold Lib.itoa; rw [if_pos hn]
    have hw : IntKind.i64.wrap (-n) = -n := by rw [IntKind.wrap_i64]; omega
    have hDl : (Lib.decDigits n.natAbs).length ≤ 21 := decDigits_len _ (by omega)
    clear en
    generalize Lib.decDigits n.natAbs = D at *
    go_enter Tryz.func71, Tryz.ntmps71
    go_wp2_with fail
    refine (HI.out _).mono ?_
    rintro e w1 ⟨rfl, hb1⟩
    go_wp2_with fail
    go_ret
    refine ⟨?_, hb1⟩
    rw [HE.out, show (45 :: D : List UInt8) = [45] ++ D from rfl, ← str_app]
    rfl
  · have h := digits71_nat n.toNat n.toNat (Nat.le_refl _) (by omega) W
    rw [show ((n.toNat : Nat) : Int) = n by omega] at h
    have e : Lib.itoa n = Lib.decDigits n.toNat := by unfold Lib.itoa; rw [if_neg hn]
    rw [e]; exact h
set_option maxRecDepth 100000 in
set_option maxHeartbeats 800000 in
theorem digits26_nat : ∀ (N u : Nat), u ≤ N → u ≤ 1000000000000000000 → ∀ W : World, Calls Tryz.prog 26 #[.int .i64 u] W fun e w' => e = .returned (.string ⟨(Lib.decDigits u).toArray⟩) ∧ Below W.heap.size W w' := by
  intro N
  induction N with
  | zero =>
    intro u hu hb W
    obtain rfl : u = 0 := by omega
    have hconv := dconv 0 48 rfl
    simp only [Int.natCast_zero, Int.add_zero] at hconv
    go_enter Tryz.func26, Tryz.ntmps26
    go_wp2_with fail
    go_ret
    refine ⟨?_, (by repeat (first | exact Below.refl _ _ | assumption | refine balloc ?_ _ | refine below_trans ?_ (by assumption) | refine Below.drew ?_ | refine below_drewN ?_ _ | refine Below.setCell ?_ (by simp <;> omega) _))⟩
    rw [Lib.decDigits_one (by omega)]
    rfl
  | succ N ih =>
    intro u hu hb W
    obtain ⟨r, hr⟩ : ∃ r, r = u % 10 := ⟨_, rfl⟩
    have hr10 : r < 10 := by omega
    obtain ⟨c, hc⟩ : ∃ c : UInt8, c = UInt8.ofNat (48 + r) := ⟨_, rfl⟩
    have em : (u : Int).tmod 10 = (r : Int) := by rw [Int.tmod_eq_emod_of_nonneg (by omega)]; omega
    have hconv := dconv r c (by rw [hc]; exact ofNat_dig hr10)
    have n0 : ¬ (u : Int) < 0 := by omega
    have w8 : IntKind.u8.wrap (48 + (r : Int)) = 48 + (r : Int) := by simp [IntKind.wrap, IntKind.bits]; omega
    by_cases h10 : u < 10
    · have z10 : ¬ (10 : Int) ≤ (u : Int) := by omega
      have HE : Hid (Lib.decDigits u = [c]) := show _ = _ from by rw [Lib.decDigits_one h10, hc, hr, Nat.mod_eq_of_lt h10]
      clear ih hr hu hc
      go_enter Tryz.func26, Tryz.ntmps26
      go_wp2_with fail
      go_ret
      refine ⟨?_, (by repeat (first | exact Below.refl _ _ | assumption | refine balloc ?_ _ | refine below_trans ?_ (by assumption) | refine Below.drew ?_ | refine below_drewN ?_ _ | refine Below.setCell ?_ (by simp <;> omega) _))⟩
      rw [HE.out]
      rfl
    · have z10 : (10 : Int) ≤ (u : Int) := by omega
      obtain ⟨v, hv⟩ : ∃ v, v = u / 10 := ⟨_, rfl⟩
      have ed : (u : Int).tdiv 10 = (v : Int) := by rw [Int.tdiv_eq_ediv_of_nonneg (by omega)]; omega
      have ed2 : (u : Int) / 10 = (v : Int) := by omega
      have HI := Lib.hid (ih v (by omega) (by omega))
      have HE : Hid (Lib.decDigits u = Lib.decDigits v ++ [c]) := show _ = _ from by rw [decDigits_big h10, hc, hr, hv]
      have hDl : (Lib.decDigits v).length ≤ 21 := decDigits_len v (by omega)
      clear ih hr hu hc hv
      generalize Lib.decDigits v = D at *
      go_enter Tryz.func26, Tryz.ntmps26
      go_wp2_with fail
      with_reducible refine (HI.out _).mono ?_
      rintro e w1 ⟨rfl, hb1⟩
      have hB := below_trans (balloc (Below.refl W.heap.size W) (.cells #[.int .u8 (48 + (r : Int))] 5)) hb1
      clear hb1
      go_wp2_with fail
      go_ret
      refine ⟨?_, hB⟩
      rw [HE.out, ← str_app]
      rfl
theorem digits26_any (n : Int) (h0 : -1000000000000000000 ≤ n) (h1 : n ≤ 1000000000000000000) (W : World) : Calls Tryz.prog 26 #[.int .i64 n] W fun e w' => e = .returned (.string ⟨(Lib.itoa n).toArray⟩) ∧ Below W.heap.size W w' := by
  by_cases hn : n < 0
  · have HI := Lib.hid (digits26_nat n.natAbs n.natAbs (Nat.le_refl _) (by omega))
    have en : ((n.natAbs : Nat) : Int) = -n := by omega
    rw [en] at HI
    have HE : Hid (Lib.itoa n = 45 :: Lib.decDigits n.natAbs) := show _ = _ from by unfold Lib.itoa; rw [if_pos hn]
    have hw : IntKind.i64.wrap (-n) = -n := by rw [IntKind.wrap_i64]; omega
    have hDl : (Lib.decDigits n.natAbs).length ≤ 21 := decDigits_len _ (by omega)
    clear en
    generalize Lib.decDigits n.natAbs = D at *
    go_enter Tryz.func26, Tryz.ntmps26
    go_wp2_with fail
    refine (HI.out _).mono ?_
    rintro e w1 ⟨rfl, hb1⟩
    go_wp2_with fail
    go_ret
    refine ⟨?_, hb1⟩
    rw [HE.out, show (45 :: D : List UInt8) = [45] ++ D from rfl, ← str_app]
    rfl
  · have h := digits26_nat n.toNat n.toNat (Nat.le_refl _) (by omega) W
    rw [show ((n.toNat : Nat) : Int) = n by omega] at h
    have e : Lib.itoa n = Lib.decDigits n.toNat := by unfold Lib.itoa; rw [if_neg hn]
    rw [e]; exact h
end Go.Proofs.YtmglbegbijofkaaGreatDoor
