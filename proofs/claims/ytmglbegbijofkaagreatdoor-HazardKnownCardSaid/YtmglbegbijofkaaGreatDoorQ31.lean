import Derived.Test.YtmglbegbijofkaaGreatDoorQ29
import Derived.Test.YtmglbegbijofkaaGreatDoorQ30
set_option linter.unusedVariables false
set_option linter.unusedSimpArgs false
namespace Go.Proofs.YtmglbegbijofkaaGreatDoor
open Go.RowKit Go.Shelf Go.Sort
end Go.Proofs.YtmglbegbijofkaaGreatDoor
namespace Go.Proofs.YtmglbegbijofkaaGreatDoor
open Go.RowKit Go.Shelf Go.Sort
set_option maxRecDepth 100000 in
set_option maxHeartbeats 800000 in
theorem sameSpread_any (va vb : Value) (l : List (Int × Int)) (o p : Int) (w : World) (ha : SpansAt w va l) (hb : SpansAt w vb l) (hn : l.length ≤ 1000000) : Calls Tryz.prog 51 #[.agg #[va, .int .i64 o, .int .i64 p], .agg #[vb, .int .i64 o, .int .i64 p]] w fun e w' => e = .returned (.bool true) ∧ Below w.heap.size w w' := by
  obtain ⟨a1, c1, rfl, hr1⟩ := ha
  obtain ⟨a2, c2, rfl, hr2⟩ := hb
  go_enter Tryz.func51, Tryz.ntmps51
  go_wp2_with fail
  obtain ⟨hA, hC, hz, hB0⟩ := alloc2 w #[.slice a1 l.length c1, .int .i64 o, .int .i64 p] #[.slice a2 l.length c2, .int .i64 o, .int .i64 p] 47 47
  clear hz
  generalize (w.alloc (.cells #[.slice a1 l.length c1, .int .i64 o, .int .i64 p] 47)).alloc (.cells #[.slice a2 l.length c2, .int .i64 o, .int .i64 p] 47) = W0 at *
  obtain ⟨s0, s1, s2⟩ := cells3 hA
  obtain ⟨t0, t1, t2⟩ := cells3 hC
  go_wp2_with fail
  clear s0 s1 s2 t0 t1 t2
  go_loopw [5] (fun i wr => ∃ k : Nat, k ≤ l.length ∧ i = .int .i64 k ∧ Below W0.heap.size W0 wr) (fun i _ => l.length - (intOf i).toNat)
  case atStart => exact ⟨0, Nat.zero_le _, rfl, Below.refl _ _⟩
  case round =>
    obtain ⟨k, hk, rfl, hBW⟩ := hrel
    have hB := below_trans hB0 hBW
    obtain ⟨s0, s1, s2⟩ := cells3 (hA.below hBW)
    obtain ⟨t0, t1, t2⟩ := cells3 (hC.below hBW)
    by_cases hlt : k < l.length
    · rcases hr1 with h0 | ⟨b, off, rfl, hb, hc⟩
      · omega
      · rcases hr2 with h0 | ⟨b', off', rfl, hb', hc'⟩
        · omega
        · have e0 := hc (k * 2) (by omega)
          have e1 := hc (k * 2 + 1) (by omega)
          rw [spanF_even l k hlt] at e0
          rw [spanF_odd l k hlt, ← Nat.add_assoc] at e1
          have d0 := hc' (k * 2) (by omega)
          have d1 := hc' (k * 2 + 1) (by omega)
          rw [spanF_even l k hlt] at d0
          rw [spanF_odd l k hlt, ← Nat.add_assoc] at d1
          have e0 := (hB.cell (p := ⟨b, off + k * 2, none⟩) hb).trans e0
          have e1 := (hB.cell (p := ⟨b, off + k * 2 + 1, none⟩) hb).trans e1
          have d0 := (hB.cell (p := ⟨b', off' + k * 2, none⟩) hb').trans d0
          have d1 := (hB.cell (p := ⟨b', off' + k * 2 + 1, none⟩) hb').trans d1
          generalize l[k].1 = z1 at *
          generalize l[k].2 = z2 at *
          have i1 : (0 : Int) ≤ (k : Int) := by omega
          have i2 : (k : Int) < (l.length : Int) := by omega
          clear hc hc'
          go_wp2_with fail
          go_quiet (fail)
          go_wp2_with fail
          go_roundw
          case rel => exact ⟨k + 1, by omega, by go_num, below_drewN' hBW _⟩
          case measure => simp [intOf]; omega
    · obtain rfl : k = l.length := by omega
      go_wp2_with fail
      go_ret
      exact ⟨rfl, hB⟩
end Go.Proofs.YtmglbegbijofkaaGreatDoor
