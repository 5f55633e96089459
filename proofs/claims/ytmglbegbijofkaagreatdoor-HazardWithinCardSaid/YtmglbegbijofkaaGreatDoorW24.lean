import Derived.Test.YtmglbegbijofkaaGreatDoorW23
namespace Go.Proofs.YtmglbegbijofkaaGreatDoor
open Go.RowKit
set_option maxRecDepth 100000 in
set_option maxHeartbeats 800000 in
theorem law11 (an ad bn bd : Int) (w : World) (ht : Tab10 w) : Calls Tryz.prog 11 #[.agg #[.int .i64 an, .int .i64 ad], .agg #[.int .i64 bn, .int .i64 bd]] w fun e w' => e = .returned (.bool true) ∧ Below w.heap.size w w' := by
  have HT := Lib.hid ht
  clear ht
  have HW1 := Lib.hid (fun W => within_any an ad bn bd W)
  have HW2 := Lib.hid (fun W => rwithin_any an ad bn bd W)
  generalize withB an ad bn bd = b at *
  generalize withE an ad bn bd = k at *
  go_enter Tryz.func11, Tryz.ntmps11
  go_wp2_with fail
  obtain ⟨hA0, hB0, hz0, hb0⟩ := alloc2 w #[.int .i64 an, .int .i64 ad] #[.int .i64 bn, .int .i64 bd] 94 94
  clear hz0
  generalize (w.alloc (.cells #[.int .i64 an, .int .i64 ad] 94)).alloc (.cells #[.int .i64 bn, .int .i64 bd] 94) = W0 at *
  refine (HW1.out _).mono ?_
  rintro e w1 ⟨rfl, hb1⟩
  obtain ⟨c0, c1⟩ := cells2 (hA0.below hb1)
  obtain ⟨d0, d1⟩ := cells2 (hB0.below hb1)
  have hB1 := below_trans hb0 hb1
  clear hA0 hB0 hb0 hb1
  go_wp2_with fail
  refine (HW2.out _).mono ?_
  rintro e w2 ⟨rfl, hb2⟩
  have hB2 := below_trans hB1 hb2
  clear hb2 hB1 c0 c1 d0 d1
  go_wp2_with fail
  refine (awake_true w2 (HT.out.below hB2)).mono ?_
  rintro e w3 ⟨rfl, hb3⟩
  go_wp2_with fail
  go_ret
  exact ⟨rfl, below_trans hB2 hb3⟩
end Go.Proofs.YtmglbegbijofkaaGreatDoor
