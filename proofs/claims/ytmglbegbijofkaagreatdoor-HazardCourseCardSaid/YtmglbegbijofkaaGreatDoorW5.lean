import Derived.Test.YtmglbegbijofkaaGreatDoorW4
import Derived.Test.YtmglbegbijofkaaGreatDoorPA
import Derived.Lib.ConvBytes
set_option linter.unusedVariables false
set_option linter.unusedSimpArgs false
namespace Go.Proofs.YtmglbegbijofkaaGreatDoor
open Go.RowKit

set_option maxHeartbeats 400000 in
theorem wout_any (n lo hi : Int) (w : World) :
    Calls Tryz.prog 150 #[.int .i64 n, .int .i64 lo, .int .i64 hi] w fun e w' => e = .returned (.bool (outB n lo hi)) ∧ w = w' := by
  go_enter Tryz.func150, Tryz.ntmps150
  go_wp2
  all_goals (go_ret; exact ⟨ret_bool (by simp [outB, *] <;> omega), rfl⟩)

theorem bytesWorld_below (w : World) (e : TypeId) (s : ByteArray) : Below w.heap.size w (Lib.bytesWorld w e s) :=
  ⟨rfl, rfl, rfl, by rw [Lib.bytesWorld_size]; omega, fun k hk => Lib.bytesWorld_at_old w e s k hk⟩

set_option maxRecDepth 100000 in
set_option maxHeartbeats 800000 in
theorem name_any (s : ByteArray) (w : World) (hs : s.size ≤ 9223372036854775806) :
    Calls Tryz.prog 90 #[.string s] w fun e w' => e = .returned (.bool (nameB s.data.toList)) ∧ Below w.heap.size w w' := by
  have hconv := Lib.run_convert_string_bytes (P := Tryz.prog) w 9 156 5 s Tryz.underlying9 Tryz.underlying156 Tryz.underlying5
  have hB := bytesWorld_below w 5 s
  have hC := Lib.bytesWorld_cell w 5 s
  generalize Lib.bytesWorld w 5 s = w1 at hconv hB hC
  have HC := Lib.hid hC
  clear hC
  go_enter Tryz.func90, Tryz.ntmps90
  go_wp2_with fail
  clear hconv
  go_loop [8] (fun i => ∃ k : Nat, k ≤ s.size ∧ i = .int .i64 k ∧ Hid (badFrom s.data.toList 0 = badFrom (s.data.toList.drop k) k)) (fun i => s.size - (intOf i).toNat)
  case atStart => exact ⟨0, Nat.zero_le _, rfl, rfl⟩
  case round =>
    obtain ⟨k, hk, rfl, HI⟩ := hrel
    by_cases hlt : k < s.size
    · have hck := HC.out k hlt
      have HS := Lib.hid (badFrom_drop s.data.toList k (by simpa using hlt))
      have hx0 : (0 : Int) ≤ (s.data.toList.getD k 0).toNat := by omega
      have hx1 : ((s.data.toList.getD k 0).toNat : Int) < 256 := by have := (s.data.toList.getD k 0).toNat_lt; omega
      generalize ((s.data.toList.getD k 0).toNat : Int) = x at *
      have hx : x < 45 ∨ (45 ≤ x ∧ x ≤ 45) ∨ (46 ≤ x ∧ x ≤ 47) ∨ (48 ≤ x ∧ x ≤ 57) ∨ (58 ≤ x ∧ x ≤ 96) ∨ (97 ≤ x ∧ x ≤ 122) ∨ 123 ≤ x := by omega
      have hkk : k ≤ 0 ∨ 1 ≤ k := by omega
      rcases hx with h | ⟨h, h'⟩ | ⟨h, h'⟩ | ⟨h, h'⟩ | ⟨h, h'⟩ | ⟨h, h'⟩ | h <;> rcases hkk with hk0 | hk0
      all_goals (try have q1 : ((k : Int) == 0) = false := beq_eq_false_iff_ne.2 (by omega))
      all_goals (try have q2 : (x != 45) = true := bne_iff_ne.2 (by omega))
      all_goals (try have q3 : decide (x ≤ 57) = false := decide_eq_false (by omega))
      all_goals (try have q4 : decide (x ≤ 122) = false := decide_eq_false (by omega))
      all_goals (go_wp2_with fail)
      all_goals (first
        | (go_ret; refine ⟨ret_bool ?_, hB⟩
           have hcb : chBad k x = true := by (unfold chBad; simp; omega)
           unfold nameB; rw [HI.out, HS.out, hcb]; simp; done)
        | (go_round
           case rel =>
             have hcb : chBad k x = false := by (unfold chBad; simp; omega)
             exact ⟨k + 1, by omega, by go_num, by unfold Hid; rw [HI.out, HS.out, hcb]; simp⟩
           case measure => (simp [intOf]; omega)))
    · obtain rfl : k = s.size := by omega
      go_wp2_with (go_at_call 150; refine (wout_any _ _ _ _).mono ?_; rintro e w' ⟨rfl, rfl⟩)
      go_ret
      refine ⟨ret_bool ?_, hB⟩
      have e : s.data.toList.length = s.size := by simp
      unfold nameB
      rw [HI.out, ← e, badFrom_end]
      simp

end Go.Proofs.YtmglbegbijofkaaGreatDoor
