import Derived.Test.YtmglbegbijofkaaGreatDoorW34
set_option linter.unusedVariables false
set_option linter.unusedSimpArgs false
namespace Go.Proofs.YtmglbegbijofkaaGreatDoor
open Go.RowKit
set_option maxRecDepth 100000 in
set_option maxHeartbeats 800000 in
theorem rasked_any (cx cy size cols rows : Int) (pv : Value) (zs : List Int) (xl xh yl yh lethal cap : Int) (w : World) (hv : IntsAt w pv zs) (hn : zs.length ≤ 9223372036854775806) :
    Calls Tryz.prog 121 #[.agg #[.int .i64 cx, .int .i64 cy, .int .i64 size, .int .i64 cols, .int .i64 rows, pv], .agg #[.int .i64 xl, .int .i64 xh, .int .i64 yl, .int .i64 yh], .agg #[.int .i64 lethal, .int .i64 cap]] w fun e w' =>
      e = .returned (.int .i64 (askE cx cy size cols rows zs xl xh yl yh lethal cap)) ∧ Below w.heap.size w w' := by
  obtain ⟨a, c, rfl, hx⟩ := id hv
  clear hx
  have HV := Lib.hid hv
  clear hv
  have HC := Lib.hid (fun W (h : IntsAt W (.slice a zs.length c) zs) => rgood_any cx cy size cols rows _ zs W h hn)
  have HW := Lib.hid (fun W => rarea_any xl xh yl yh W)
  have HAK : Hid (askE cx cy size cols rows zs xl xh yl yh lethal cap = if chkE cx cy size cols rows zs ≠ 0 then chkE cx cy size cols rows zs else if wildB xl xh yl yh then 7 else if outB lethal 0 10000 || outB cap 1 1000000 then 2 else 0) := show _ = _ from rfl
  generalize askE cx cy size cols rows zs xl xh yl yh lethal cap = ak at *
  generalize chkE cx cy size cols rows zs = ck at *
  generalize wildB xl xh yl yh = wb at *
  go_enter Tryz.func121, Tryz.ntmps121
  go_wp2_with fail
  obtain ⟨hM, hA, hW, hz, hB⟩ := alloc3 w #[.int .i64 cx, .int .i64 cy, .int .i64 size, .int .i64 cols, .int .i64 rows, .slice a zs.length c] #[.int .i64 xl, .int .i64 xh, .int .i64 yl, .int .i64 yh] #[.int .i64 lethal, .int .i64 cap] 42 25 44
  clear hz
  generalize ((w.alloc (.cells #[.int .i64 cx, .int .i64 cy, .int .i64 size, .int .i64 cols, .int .i64 rows, .slice a zs.length c] 42)).alloc (.cells #[.int .i64 xl, .int .i64 xh, .int .i64 yl, .int .i64 yh] 25)).alloc (.cells #[.int .i64 lethal, .int .i64 cap] 44) = W0 at *
  refine (HC.out _ (HV.out.below hB)).mono ?_
  rintro e w1 ⟨rfl, hb1⟩
  have hA := hA.below hb1
  have hW := hW.below hb1
  have hB := below_trans hB hb1
  obtain ⟨a0, a1, a2, a3⟩ := cells4 hA
  by_cases hc : ck = 0
  · subst hc
    go_wp2_with fail
    refine (HW.out _).mono ?_
    rintro e w2 ⟨rfl, hb2⟩
    have hW := hW.below hb2
    have hB := below_trans hB hb2
    obtain ⟨l0, l1⟩ := cells2 hW
    clear a0 a1 a2 a3
    cases wb with
    | true =>
      go_wp2_with fail
      go_ret
      exact ⟨ret_int (by rw [HAK.out]; simp), hB⟩
    | false =>
      go_wp2_with (go_at_call 69; refine (in_any _ _ _ _).mono ?_; rintro e w' ⟨rfl, rfl⟩)
      all_goals (go_ret; exact ⟨ret_int (by rw [HAK.out]; simp [*]), hB⟩)
  · have hc1 : (ck == 0) = false := by simpa using hc
    have hc2 : (ck != 0) = true := by simpa using hc
    have HN := Lib.hid hc
    clear hc
    go_wp2_with fail
    go_ret
    exact ⟨ret_int (by rw [HAK.out, if_pos HN.out]), hB⟩
set_option maxRecDepth 100000 in
set_option maxHeartbeats 800000 in
theorem rhas_any (v : Value) (l : List Int) (n : Int) (w : World) (ha : IntsAt w v l) (hn : l.length ≤ 1000000) : Calls Tryz.prog 168 #[v, .int .i64 n] w fun e w' => e = .returned (.bool (l.contains n)) ∧ Below w.heap.size w w' := by
  obtain ⟨a1, c1, rfl, hr1⟩ := ha
  go_enter Tryz.func168, Tryz.ntmps168
  go_wp2_with fail
  go_loopw [5] (fun i wr => ∃ k : Nat, k ≤ l.length ∧ i = .int .i64 k ∧ Below w.heap.size w wr ∧ Hid (l.contains n = (l.drop k).contains n)) (fun i _ => l.length - (intOf i).toNat)
  case atStart => exact ⟨0, Nat.zero_le _, rfl, Below.refl _ _, rfl⟩
  case round =>
    obtain ⟨k, hk, rfl, hB, HC⟩ := hrel
    by_cases hlt : k < l.length
    · rcases hr1 with h0 | ⟨b, off, rfl, hb, hc⟩
      · omega
      · have e1 := (hB.cell (p := ⟨b, off + k, none⟩) hb).trans (hc k (by omega))
        unfold intF at e1
        have HD : Hid ((l.drop k).contains n = (n == l[k]?.getD 0 || (l.drop (k + 1)).contains n)) := show _ = _ from by
          rw [List.drop_eq_getElem_cons hlt, List.contains_cons]; simp [hlt]
        generalize l[k]?.getD 0 = z at *
        have i1 : (0 : Int) ≤ (k : Int) := by omega
        have i2 : (k : Int) < (l.length : Int) := by omega
        clear hc
        by_cases hz : z = n
        · subst hz
          go_wp2_with fail
          go_ret
          exact ⟨ret_bool (by rw [HC.out, HD.out]; simp), hB⟩
        · have hz1 : (z == n) = false := by simpa using hz
          have HZ : Hid ((n == z) = false) := show _ = _ from by simpa using fun h => hz h.symm
          clear hz
          go_wp2_with fail
          go_roundw
          case rel => exact ⟨k + 1, by omega, by go_num, hB, by show _ = _; rw [HC.out, HD.out, HZ.out]; rfl⟩
          case measure => simp [intOf]; omega
    · obtain rfl : k = l.length := by omega
      go_wp2_with fail
      go_ret
      exact ⟨ret_bool (by rw [HC.out]; simp), hB⟩
set_option maxRecDepth 100000 in
set_option maxHeartbeats 800000 in
theorem listed_any (v : Value) (l : List Int) (n : Int) (w : World) (ha : IntsAt w v l) (hn : l.length ≤ 1000000) : Calls Tryz.prog 58 #[v, .int .i64 n] w fun e w' => e = .returned (.bool (l.contains n)) ∧ Below w.heap.size w w' := by
  obtain ⟨a1, c1, rfl, hr1⟩ := ha
  go_enter Tryz.func58, Tryz.ntmps58
  go_wp2_with fail
  go_loopw [5] (fun i wr => ∃ k : Nat, k ≤ l.length ∧ i = .int .i64 k ∧ Below w.heap.size w wr ∧ Hid (l.contains n = (l.drop k).contains n)) (fun i _ => l.length - (intOf i).toNat)
  case atStart => exact ⟨0, Nat.zero_le _, rfl, Below.refl _ _, rfl⟩
  case round =>
    obtain ⟨k, hk, rfl, hB, HC⟩ := hrel
    by_cases hlt : k < l.length
    · rcases hr1 with h0 | ⟨b, off, rfl, hb, hc⟩
      · omega
      · have e1 := (hB.cell (p := ⟨b, off + k, none⟩) hb).trans (hc k (by omega))
        unfold intF at e1
        have HD : Hid ((l.drop k).contains n = (n == l[k]?.getD 0 || (l.drop (k + 1)).contains n)) := show _ = _ from by
          rw [List.drop_eq_getElem_cons hlt, List.contains_cons]; simp [hlt]
        generalize l[k]?.getD 0 = z at *
        have i1 : (0 : Int) ≤ (k : Int) := by omega
        have i2 : (k : Int) < (l.length : Int) := by omega
        clear hc
        by_cases hz : z = n
        · subst hz
          go_wp2_with fail
          go_ret
          exact ⟨ret_bool (by rw [HC.out, HD.out]; simp), hB⟩
        · have hz1 : (z == n) = false := by simpa using hz
          have HZ : Hid ((n == z) = false) := show _ = _ from by simpa using fun h => hz h.symm
          clear hz
          go_wp2_with fail
          go_roundw
          case rel => exact ⟨k + 1, by omega, by go_num, hB, by show _ = _; rw [HC.out, HD.out, HZ.out]; rfl⟩
          case measure => simp [intOf]; omega
    · obtain rfl : k = l.length := by omega
      go_wp2_with fail
      go_ret
      exact ⟨ret_bool (by rw [HC.out]; simp), hB⟩
end Go.Proofs.YtmglbegbijofkaaGreatDoor
