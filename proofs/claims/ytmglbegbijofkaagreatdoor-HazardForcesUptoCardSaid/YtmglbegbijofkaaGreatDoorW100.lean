import Derived.Test.YtmglbegbijofkaaGreatDoorWX
import Derived.Test.YtmglbegbijofkaaGreatDoorW22
set_option linter.unusedVariables false
set_option linter.unusedSimpArgs false
namespace Go.Proofs.YtmglbegbijofkaaGreatDoor
open Go.RowKit
theorem fcL_len (ss : List (List UInt8)) (t : Int) : (fcL ss t).length ≤ 1000000 := by
  unfold fcL
  split
  · have h1 := List.length_filter_le (tickB t) (forceL ss)
    have h2 := forceL_len ss
    omega
  · simp
set_option maxRecDepth 100000 in
set_option maxHeartbeats 800000 in
theorem law16 (ss : List (List UInt8)) (v : Value) (t : Int) (x : Impact) (w : World) (ht : Tab10 w) (hv : StrsAt w v ss) (hs : ∀ s ∈ ss, s.length ≤ 8796093022000) (hl : ss.length ≤ 9223372036854775806) :
    Calls Tryz.prog 16 #[v, .int .i64 t, .agg #[.int .i64 x.p, .int .i64 x.xl, .int .i64 x.xh, .int .i64 x.yl, .int .i64 x.yh, .int .i64 x.tl, .int .i64 x.th]] w fun e w' => e = .returned (.bool true) ∧ Below w.heap.size w w' := by
  have HT := Lib.hid ht
  have HV := Lib.hid hv
  have HF1 := Lib.hid (fun W (h : StrsAt W v ss) => hForce_any ss v t W h hs hl)
  have HF2 := Lib.hid (fun W (h : StrsAt W v ss) => rForce_any ss v t W h hs hl)
  have HC1 := Lib.hid (fun W (h : StrsAt W v ss) => hcovers_any ss v x W h hs hl)
  have HC2 := Lib.hid (fun W (h : StrsAt W v ss) => rcovers_any ss v x W h hs hl)
  have HSN := Lib.hid (fun va vb W (h1 : NtsAt W va (fcL ss t)) (h2 : NtsAt W vb (fcL ss t)) => sameNotices_any va vb _ W h1 h2 (fcL_len ss t))
  clear ht hv hs hl
  unfold FcPost at HF1 HF2
  generalize fcE ss t = FE at *
  generalize fcL ss t = FL at *
  generalize covN ss x = CN at *
  generalize covE ss x = CE at *
  obtain ⟨xp, xxl, xxh, xyl, xyh, xtl, xth⟩ := x
  simp only at HC1 HC2
  go_enter Tryz.func16, Tryz.ntmps16
  go_wp2_with fail
  have hX := cellsNew w #[.int .i64 xp, .int .i64 xxl, .int .i64 xxh, .int .i64 xyl, .int .i64 xyh, .int .i64 xtl, .int .i64 xth] 27
  have hB : Below w.heap.size w (w.alloc (.cells #[.int .i64 xp, .int .i64 xxl, .int .i64 xxh, .int .i64 xyl, .int .i64 xyh, .int .i64 xtl, .int .i64 xth] 27)) := balloc (Below.refl _ _) _
  generalize w.alloc (.cells #[.int .i64 xp, .int .i64 xxl, .int .i64 xxh, .int .i64 xyl, .int .i64 xyh, .int .i64 xtl, .int .i64 xth] 27) = W0 at *
  refine (HF1.out _ (HV.out.below hB)).mono ?_
  rintro e w1 ⟨v1, rfl, hn1, hb1⟩
  have HN1 := Lib.hid hn1
  clear hn1
  have hX := hX.below hb1
  have hB := below_trans hB hb1
  go_wp2_with fail
  refine (HF2.out _ (HV.out.below hB)).mono ?_
  rintro e w2 ⟨v2, rfl, hn2, hb2⟩
  have HN2 := Lib.hid hn2
  have HN1 := Lib.hid (HN1.out.below hb2)
  clear hn2
  have hX := hX.below hb2
  have hB := below_trans hB hb2
  go_wp2_with fail
  refine (HSN.out _ _ _ HN1.out HN2.out).mono ?_
  rintro e w3 ⟨rfl, hb3⟩
  have hX := hX.below hb3
  have hB := below_trans hB hb3
  obtain ⟨d0, d1, d2, d3, d4, d5, d6⟩ := cells7y hX
  go_wp2_with fail
  refine (HC1.out _ (HV.out.below hB)).mono ?_
  rintro e w4 ⟨rfl, hb4⟩
  clear d0 d1 d2 d3 d4 d5 d6
  have hX := hX.below hb4
  have hB := below_trans hB hb4
  obtain ⟨d0, d1, d2, d3, d4, d5, d6⟩ := cells7y hX
  go_wp2_with fail
  refine (HC2.out _ (HV.out.below hB)).mono ?_
  rintro e w5 ⟨rfl, hb5⟩
  clear d0 d1 d2 d3 d4 d5 d6
  have hB := below_trans hB hb5
  go_wp2_with fail
  refine (awake_true _ (HT.out.below hB)).mono ?_
  rintro e w6 ⟨rfl, hb6⟩
  go_wp2_with fail
  go_ret
  exact ⟨rfl, below_trans hB hb6⟩
end Go.Proofs.YtmglbegbijofkaaGreatDoor
