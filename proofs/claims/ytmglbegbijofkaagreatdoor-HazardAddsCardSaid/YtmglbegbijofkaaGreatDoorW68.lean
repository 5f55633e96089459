import Derived.Test.YtmglbegbijofkaaGreatDoorW74
import Derived.Test.YtmglbegbijofkaaGreatDoorW23
set_option linter.unusedVariables false
set_option linter.unusedSimpArgs false
namespace Go.Proofs.YtmglbegbijofkaaGreatDoor
open Go.RowKit Go.Shelf Go.Sort
theorem head_run82 (a : Option Addr) (m c n : Nat) (hn : n ≤ c) : ∀ w : World, (Instr.sliceAt 82 (.slice a m c) none (some (.int .i64 n)) none).run Tryz.prog w = .ok (.slice a n c) w := fun w => by
  simp [go_sem, Tryz.underlying82]
  omega
theorem head_run92 (a : Option Addr) (m c n : Nat) (hn : n ≤ c) : ∀ w : World, (Instr.sliceAt 92 (.slice a m c) none (some (.int .i64 n)) none).run Tryz.prog w = .ok (.slice a n c) w := fun w => by
  simp [go_sem, Tryz.underlying92]
  omega
theorem tail_run82 (b o m c n : Nat) (hn : n < m) (hc : m ≤ c) : ∀ w : World, (Instr.sliceAt 82 (.slice (some ⟨b, o, none⟩) m c) (some (.int .i64 n)) none none).run Tryz.prog w = .ok (.slice (some ⟨b, o + n * 7, none⟩) (m - n) (c - n)) w := fun w => by
  have h : ¬ c = n := by omega
  simp [go_sem, h, Tryz.underlying82]
  omega
theorem tail_run92 (b o m c n : Nat) (hn : n < m) (hc : m ≤ c) : ∀ w : World, (Instr.sliceAt 92 (.slice (some ⟨b, o, none⟩) m c) (some (.int .i64 n)) none none).run Tryz.prog w = .ok (.slice (some ⟨b, o + n * 2, none⟩) (m - n) (c - n)) w := fun w => by
  have h : ¬ c = n := by omega
  simp [go_sem, h, Tryz.underlying92]
  omega
theorem impacts_take {W : World} {a : Option Addr} {c n : Nat} {l : List Impact} (h : ImpactsAt W (.slice a l.length c) l) (hn : n ≤ l.length) : ImpactsAt W (.slice a n c) (l.take n) := by
  have hln : (l.take n).length = n := by rw [List.length_take]; omega
  obtain ⟨a', c', hac, h0⟩ := h
  simp only [Value.slice.injEq] at hac
  obtain ⟨rfl, _, rfl⟩ := hac
  refine ⟨a, c, by rw [hln], ?_⟩
  rw [hln]
  rcases h0 with h0 | ⟨b, off, rfl, hb, hc⟩
  · exact .inl (by omega)
  · refine .inr ⟨b, off, rfl, hb, fun i hi => ?_⟩
    rw [hc i (by omega)]
    have hq : i / 7 < n := by omega
    unfold impF imAt
    simp [List.getElem?_take, hq]
theorem spans_take {W : World} {a : Option Addr} {c n : Nat} {l : List (Int × Int)} (h : SpansAt W (.slice a l.length c) l) (hn : n ≤ l.length) : SpansAt W (.slice a n c) (l.take n) := by
  have hln : (l.take n).length = n := by rw [List.length_take]; omega
  obtain ⟨a', c', hac, h0⟩ := h
  simp only [Value.slice.injEq] at hac
  obtain ⟨rfl, _, rfl⟩ := hac
  refine ⟨a, c, by rw [hln], ?_⟩
  rw [hln]
  rcases h0 with h0 | ⟨b, off, rfl, hb, hc⟩
  · exact .inl (by omega)
  · refine .inr ⟨b, off, rfl, hb, fun i hi => ?_⟩
    rw [hc i (by omega)]
    have hq : i / 2 < n := by omega
    unfold spanF
    simp [List.getElem?_take, hq]
theorem impacts_drop {W : World} {b off c n : Nat} {l : List Impact} (h : ImpactsAt W (.slice (some ⟨b, off, none⟩) l.length c) l) (hn : n < l.length) : ImpactsAt W (.slice (some ⟨b, off + n * 7, none⟩) (l.length - n) (c - n)) (l.drop n) := by
  have hln : (l.drop n).length = l.length - n := List.length_drop
  obtain ⟨a', c', hac, h0⟩ := h
  simp only [Value.slice.injEq] at hac
  obtain ⟨rfl, _, rfl⟩ := hac
  refine ⟨_, _, by rw [hln], ?_⟩
  rw [hln]
  rcases h0 with h0 | ⟨b', off', hbe, hb, hc⟩
  · omega
  · simp only [Option.some.injEq, Addr.mk.injEq] at hbe
    obtain ⟨rfl, rfl, _⟩ := hbe
    refine .inr ⟨b, off + n * 7, rfl, hb, fun i hi => ?_⟩
    have h2 := hc (n * 7 + i) (by omega)
    rw [← Nat.add_assoc] at h2
    rw [h2]
    have e1 : (n * 7 + i) % 7 = i % 7 := by omega
    have e2 : (n * 7 + i) / 7 = n + i / 7 := by omega
    unfold impF imAt
    simp [e1, e2, List.getElem?_drop]
theorem spans_drop {W : World} {b off c n : Nat} {l : List (Int × Int)} (h : SpansAt W (.slice (some ⟨b, off, none⟩) l.length c) l) (hn : n < l.length) : SpansAt W (.slice (some ⟨b, off + n * 2, none⟩) (l.length - n) (c - n)) (l.drop n) := by
  have hln : (l.drop n).length = l.length - n := List.length_drop
  obtain ⟨a', c', hac, h0⟩ := h
  simp only [Value.slice.injEq] at hac
  obtain ⟨rfl, _, rfl⟩ := hac
  refine ⟨_, _, by rw [hln], ?_⟩
  rw [hln]
  rcases h0 with h0 | ⟨b', off', hbe, hb, hc⟩
  · omega
  · simp only [Option.some.injEq, Addr.mk.injEq] at hbe
    obtain ⟨rfl, rfl, _⟩ := hbe
    refine .inr ⟨b, off + n * 2, rfl, hb, fun i hi => ?_⟩
    have h2 := hc (n * 2 + i) (by omega)
    rw [← Nat.add_assoc] at h2
    rw [h2]
    have e1 : (n * 2 + i) % 2 = i % 2 := by omega
    have e2 : (n * 2 + i) / 2 = n + i / 2 := by omega
    unfold spanF
    simp [e1, e2, List.getElem?_drop]
theorem set2_cell {X : World} {b : Nat} {u0 u1 v : Value} {q : Addr} (hc : X.cell? q = some v) (hne : q.block ≠ b) : ((X.setCell ⟨b, 0, none⟩ u0).setCell ⟨b, 1, none⟩ u1).cell? q = some v := ((set1_grown X b 0 u0).trans (set1_grown _ b 1 u1)).cell hc (ne_some hne)
theorem tail_any82 {la : Option Addr} {lc n : Nat} {l : List Impact} (hlc : l.length ≤ lc) (hn : n = l.length / 2) (W0 : World) (h0 : ImpactsAt W0 (.slice la l.length lc) l) : ∃ la2 c2, (∀ w : World, (Instr.sliceAt 82 (.slice la l.length lc) (some (.int .i64 n)) none none).run Tryz.prog w = .ok (.slice la2 (l.length - n) c2) w) ∧ (∀ W, ImpactsAt W (.slice la l.length lc) l → ImpactsAt W (.slice la2 (l.length - n) c2) (l.drop n)) := by
  by_cases hz : l.length = 0
  · have hn0 : n = 0 := by omega
    subst hn0
    refine ⟨la, lc, fun w => ?_, fun W _ => ⟨la, lc, by simp [hz], .inl (by simp [hz])⟩⟩
    rw [hz]
    cases la with
    | none => simp [go_sem, Tryz.underlying82]
    | some a => simp [go_sem, Tryz.underlying82]
  · obtain ⟨a', c', hac, h1 | ⟨b, off, rfl, hb, hc⟩⟩ := h0
    · omega
    · simp only [Value.slice.injEq] at hac
      obtain ⟨rfl, _, rfl⟩ := hac
      exact ⟨_, _, tail_run82 b off l.length lc n (by omega) hlc, fun W h => impacts_drop h (by omega)⟩
theorem tail_any92 {la : Option Addr} {lc n : Nat} {l : List (Int × Int)} (hlc : l.length ≤ lc) (hn : n = l.length / 2) (W0 : World) (h0 : SpansAt W0 (.slice la l.length lc) l) : ∃ la2 c2, (∀ w : World, (Instr.sliceAt 92 (.slice la l.length lc) (some (.int .i64 n)) none none).run Tryz.prog w = .ok (.slice la2 (l.length - n) c2) w) ∧ (∀ W, SpansAt W (.slice la l.length lc) l → SpansAt W (.slice la2 (l.length - n) c2) (l.drop n)) := by
  by_cases hz : l.length = 0
  · have hn0 : n = 0 := by omega
    subst hn0
    refine ⟨la, lc, fun w => ?_, fun W _ => ⟨la, lc, by simp [hz], .inl (by simp [hz])⟩⟩
    rw [hz]
    cases la with
    | none => simp [go_sem, Tryz.underlying92]
    | some a => simp [go_sem, Tryz.underlying92]
  · obtain ⟨a', c', hac, h1 | ⟨b, off, rfl, hb, hc⟩⟩ := h0
    · omega
    · simp only [Value.slice.injEq] at hac
      obtain ⟨rfl, _, rfl⟩ := hac
      exact ⟨_, _, tail_run92 b off l.length lc n (by omega) hlc, fun W h => spans_drop h (by omega)⟩
set_option maxRecDepth 100000 in
set_option maxHeartbeats 4000000 in
theorem law13 (cx cy size cols rows : Int) (pv : Value) (zs : List Int) (la wa : Option Addr) (lc lw : Nat) (l : List Impact) (ws : List (Int × Int)) (w : World) (hv : IntsAt w pv zs) (hl : ImpactsAt w (.slice la l.length lc) l) (hw : SpansAt w (.slice wa ws.length lw) ws) (hlc : l.length ≤ lc) (hwc : ws.length ≤ lw) (hn : zs.length ≤ 9223372036854775806) (hll : l.length ≤ 9223372036854775806) (hwl : ws.length ≤ 9223372036854775806) (ht : Tab10 w) :
    Calls Tryz.prog 13 #[.agg #[.int .i64 cx, .int .i64 cy, .int .i64 size, .int .i64 cols, .int .i64 rows, pv], .slice la l.length lc, .slice wa ws.length lw] w fun e w' => e = .returned (.bool true) ∧ Below w.heap.size w w' := by
  obtain ⟨pa, pc, rfl, hx⟩ := id hv
  clear hx
  have HV := Lib.hid hv
  have HL := Lib.hid hl
  have HW := Lib.hid hw
  have HT := Lib.hid ht
  have HR := Lib.hid (fun W lv l' wv ws' (h1 : IntsAt W (.slice pa zs.length pc) zs) (h2 : ImpactsAt W lv l') (h3 : SpansAt W wv ws') (h4 : l'.length ≤ 9223372036854775806) (h5 : ws'.length ≤ 9223372036854775806) => hrisk_any cx cy size cols rows _ lv wv zs l' ws' W h1 h2 h3 hn h4 h5)
  unfold RiskEnd at HR
  have HR0 := Lib.hid (fun W h1 h2 h3 => HR.out W (.slice la l.length lc) l (.slice wa ws.length lw) ws h1 h2 h3 hll hwl)
  by_cases h0 : riskE cx cy size cols rows zs l ws = 0
  · obtain ⟨hck, hl12, hle, _⟩ := riskE_zero h0
    obtain ⟨hmb, _, _⟩ := chkE_zero hck
    obtain ⟨_, _, ⟨u5, u6⟩, _⟩ := mapB_false.1 hmb
    obtain ⟨n, hn2⟩ : ∃ n, n = l.length / 2 := ⟨_, rfl⟩
    obtain ⟨e1, e2, e3, e4, e5, e6⟩ := risk_cut h0 n
    have ed : ∀ l' ws', riskE cx cy size cols rows zs l' ws' = 0 → riskD cx cy size cols rows zs l' ws' = 1000000 * size * size := fun l' ws' h => if_pos h
    obtain ⟨la2, lc2, hsl2, hsi2⟩ := tail_any82 hlc hn2 w hl
    obtain ⟨wa2, wc2, hsw2, hsj2⟩ := tail_any92 (n := n) hwc (by rw [hn2, hle]) w hw
    have hsl1 := head_run82 la l.length lc n (by omega)
    have hsw1 := head_run92 wa ws.length lw n (by omega)
    have HRa := Lib.hid (fun W (h1 : IntsAt W (.slice pa zs.length pc) zs) (h2 : ImpactsAt W (.slice la l.length lc) l) (h3 : SpansAt W (.slice wa ws.length lw) ws) => HR.out W (.slice la n lc) (l.take n) (.slice wa n lw) (ws.take n) h1 (impacts_take h2 (by omega)) (spans_take h3 (by omega)) (by rw [List.length_take]; omega) (by rw [List.length_take]; omega))
    have HRb := Lib.hid (fun W (h1 : IntsAt W (.slice pa zs.length pc) zs) (h2 : ImpactsAt W (.slice la l.length lc) l) (h3 : SpansAt W (.slice wa ws.length lw) ws) => HR.out W (.slice la2 (l.length - n) lc2) (l.drop n) (.slice wa2 (ws.length - n) wc2) (ws.drop n) h1 (hsi2 W h2) (hsj2 W h3) (by rw [List.length_drop]; omega) (by rw [List.length_drop]; omega))
    rw [h0, ed _ _ h0] at HR0
    rw [e1, ed _ _ e1] at HRa
    rw [e2, ed _ _ e2] at HRb
    have hle2 : ((l.length : Int) != (ws.length : Int)) = false := bne_eq_false_iff_eq.2 (by omega)
    have HN2 : Hid ((l.length : Int) / 2 = (n : Int)) := show _ = _ from by omega
    obtain ⟨d1, d2⟩ := mul_bd (1000000 * size) size 100000000000 100000 (by omega) (by omega) (by omega) u6
    have d3 : 1 ≤ 1000000 * size * size := by
      have := Int.mul_le_mul (a := 1) (b := 1) (show (1 : Int) ≤ 1000000 * size by omega) u5 (by omega) (by omega)
      omega
    generalize riskN cx cy size cols rows zs l ws = N at *
    generalize riskN cx cy size cols rows zs (l.take n) (ws.take n) = Na at *
    generalize riskN cx cy size cols rows zs (l.drop n) (ws.drop n) = Nb at *
    generalize 1000000 * size * size = den at *
    clear h0 hck hle hmb e1 e2 ed hsi2 hsj2 hl hw hv HR u5 u6 hn2
    go_enter Tryz.func13, Tryz.ntmps13
    go_wp2_with fail
    have hM := cellsNew w #[.int .i64 cx, .int .i64 cy, .int .i64 size, .int .i64 cols, .int .i64 rows, .slice pa zs.length pc] 42
    have hB : Below w.heap.size w (w.alloc (.cells #[.int .i64 cx, .int .i64 cy, .int .i64 size, .int .i64 cols, .int .i64 rows, .slice pa zs.length pc] 42)) := (by repeat (first | exact Below.refl _ _ | assumption | refine balloc ?_ _ | refine below_trans ?_ (by assumption) | refine Below.drew ?_ | refine below_drewN ?_ _ | refine Below.setCell ?_ (by simp <;> omega) _))
    generalize w.alloc (.cells #[.int .i64 cx, .int .i64 cy, .int .i64 size, .int .i64 cols, .int .i64 rows, .slice pa zs.length pc] 42) = W0 at *
    refine (HR0.out _ (HV.out.below hB) (HL.out.below hB) (HW.out.below hB)).mono ?_
    rintro e w1 ⟨rfl, hb1⟩
    have hA := cellsNew w1 #[.int .i64 N, .int .i64 den] 94
    have hM := (hM.below hb1).below (balloc (Below.refl _ _) (.cells #[.int .i64 N, .int .i64 den] 94))
    have hB := balloc (below_trans hB hb1) (.cells #[.int .i64 N, .int .i64 den] 94)
    go_upto_region 5 with fail
    generalize w1.alloc (.cells #[.int .i64 N, .int .i64 den] 94) = W5 at *
    generalize w1.heap.size = ab at *
    rw [HN2.out]
    go_cut [8, 10] (fun e8 p10 wx => e8 = .int .i64 0 ∧ ∃ bb : Nat, p10 = .pointer (some ⟨bb, 0, none⟩) ∧ cellsAt wx bb 94 #[.int .i64 Na, .int .i64 den] ∧ cellsAt wx w.heap.size 42 #[.int .i64 cx, .int .i64 cy, .int .i64 size, .int .i64 cols, .int .i64 rows, .slice pa zs.length pc] ∧ cellsAt wx ab 94 #[.int .i64 N, .int .i64 den] ∧ Below w.heap.size w wx)
    case first =>
      have hsw : w.heap.size < W5.heap.size := hM.lt
      have ne1 : w.heap.size ≠ W5.heap.size := by omega
      have neA : ab ≠ W5.heap.size := by have := hA.lt; omega
      have ne6 : w.heap.size ≤ W5.heap.size := by omega
      obtain ⟨m0, m1, m2, m3, m4, m5⟩ := cells6 hM
      have hMd : cellsAt W5.drew w.heap.size 42 #[.int .i64 cx, .int .i64 cy, .int .i64 size, .int .i64 cols, .int .i64 rows, .slice pa zs.length pc] := hM
      have hAd : cellsAt W5.drew ab 94 #[.int .i64 N, .int .i64 den] := hA
      have hBd : Below w.heap.size w W5.drew := hB.drew
      have HM5 := Lib.hid hM
      have HA5 := Lib.hid hA
      clear hM hA hB
      go_region_held3 (fun w' => w'.cell? ⟨w.heap.size, 0, none⟩ = some (.int .i64 cx) ∧ w'.cell? ⟨w.heap.size, 1, none⟩ = some (.int .i64 cy) ∧ w'.cell? ⟨w.heap.size, 2, none⟩ = some (.int .i64 size) ∧ w'.cell? ⟨w.heap.size, 3, none⟩ = some (.int .i64 cols) ∧ w'.cell? ⟨w.heap.size, 4, none⟩ = some (.int .i64 rows) ∧ w'.cell? ⟨w.heap.size, 5, none⟩ = some (.slice pa zs.length pc)) (first | (with_reducible exact ⟨m0, m1, m2, m3, m4, m5⟩) | (with_reducible exact ⟨alloc_cell m0 _, alloc_cell m1 _, alloc_cell m2 _, alloc_cell m3 _, alloc_cell m4 _, alloc_cell m5 _⟩) | (with_reducible exact ⟨set2_cell m0 ne1, set2_cell m1 ne1, set2_cell m2 ne1, set2_cell m3 ne1, set2_cell m4 ne1, set2_cell m5 ne1⟩) | go_keep) ((go_at_call 41; refine (HRa.out _ (HV.out.below (by first | exact hBd | exact balloc hBd _)) (HL.out.below (by first | exact hBd | exact balloc hBd _)) (HW.out.below (by first | exact hBd | exact balloc hBd _))).mono ?_; rintro e w7 ⟨rfl, hbA⟩; have m0 := below_cell hbA (by first | exact m0 | exact alloc_cell m0 _); have m1 := below_cell hbA (by first | exact m1 | exact alloc_cell m1 _); have m2 := below_cell hbA (by first | exact m2 | exact alloc_cell m2 _); have m3 := below_cell hbA (by first | exact m3 | exact alloc_cell m3 _); have m4 := below_cell hbA (by first | exact m4 | exact alloc_cell m4 _); have m5 := below_cell hbA (by first | exact m5 | exact alloc_cell m5 _); (try have hP : cellsAt w7 W5.heap.size 94 #[.int .i64 0, .int .i64 0] := (cellsNew W5.drew #[.int .i64 0, .int .i64 0] 94).below hbA; (obtain ⟨g0, g1⟩ := cells2 hP); (have ff0 := hP.frozen 0); (have ff1 := hP.frozen 1)); have hbA := below_trans (by first | exact Below.refl W5.drew.heap.size W5.drew | exact balloc (Below.refl W5.drew.heap.size W5.drew) _) hbA; have hMd := hMd.below hbA; have hAd := hAd.below hbA; have hBd := below_trans hBd hbA))
      all_goals
        go_wp2_with fail
        go_meet
        first
          | (with_reducible exact ⟨rfl, _, rfl, cellsNew _ _ _, hMd.below (balloc (Below.refl _ _) _), hAd.below (balloc (Below.refl _ _) _), balloc hBd _⟩)
          | exact ⟨rfl, W5.heap.size, rfl, (hP.set 0 _).set 1 _, hMd.grown ((set1_grown _ _ 0 _).trans (set1_grown _ _ 1 _)) ne1, hAd.grown ((set1_grown _ _ 0 _).trans (set1_grown _ _ 1 _)) neA, hBd.grown ((set1_grown _ _ 0 _).trans (set1_grown _ _ 1 _)) hBd.size (fun j e => by cases e; exact ne6)⟩
    case rest =>
      obtain ⟨rfl, bb, rfl, hC, hM, hA, hB⟩ := hcut
      go_upto_region 6 with fail
      go_cut [11, 12] (fun p11 e12 wx => e12 = .int .i64 0 ∧ ∃ cb : Nat, p11 = .pointer (some ⟨cb, 0, none⟩) ∧ cellsAt wx cb 94 #[.int .i64 Nb, .int .i64 den] ∧ cellsAt wx bb 94 #[.int .i64 Na, .int .i64 den] ∧ cellsAt wx ab 94 #[.int .i64 N, .int .i64 den] ∧ Below w.heap.size w wx)
      case first =>
        generalize wc = W6 at *
        have hsw : w.heap.size < W6.heap.size := hM.lt
        have ne1 : w.heap.size ≠ W6.heap.size := by omega
        have neA : ab ≠ W6.heap.size := by have := hA.lt; omega
        have neC : bb ≠ W6.heap.size := by have := hC.lt; omega
        have ne6 : w.heap.size ≤ W6.heap.size := by omega
        obtain ⟨m0, m1, m2, m3, m4, m5⟩ := cells6 hM
        have hMd : cellsAt W6.drew w.heap.size 42 #[.int .i64 cx, .int .i64 cy, .int .i64 size, .int .i64 cols, .int .i64 rows, .slice pa zs.length pc] := hM
        have hAd : cellsAt W6.drew ab 94 #[.int .i64 N, .int .i64 den] := hA
        have hCd : cellsAt W6.drew bb 94 #[.int .i64 Na, .int .i64 den] := hC
        have hBd : Below w.heap.size w W6.drew := hB.drew
        have HM5 := Lib.hid hM
        have HA5 := Lib.hid hA
        have HC5 := Lib.hid hC
        clear hM hA hB hC
        go_region_held3 (fun w' => w'.cell? ⟨w.heap.size, 0, none⟩ = some (.int .i64 cx) ∧ w'.cell? ⟨w.heap.size, 1, none⟩ = some (.int .i64 cy) ∧ w'.cell? ⟨w.heap.size, 2, none⟩ = some (.int .i64 size) ∧ w'.cell? ⟨w.heap.size, 3, none⟩ = some (.int .i64 cols) ∧ w'.cell? ⟨w.heap.size, 4, none⟩ = some (.int .i64 rows) ∧ w'.cell? ⟨w.heap.size, 5, none⟩ = some (.slice pa zs.length pc)) (first | (with_reducible exact ⟨m0, m1, m2, m3, m4, m5⟩) | (with_reducible exact ⟨alloc_cell m0 _, alloc_cell m1 _, alloc_cell m2 _, alloc_cell m3 _, alloc_cell m4 _, alloc_cell m5 _⟩) | (with_reducible exact ⟨set2_cell m0 ne1, set2_cell m1 ne1, set2_cell m2 ne1, set2_cell m3 ne1, set2_cell m4 ne1, set2_cell m5 ne1⟩) | go_keep) ((go_at_call 41; refine (HRb.out _ (HV.out.below (by first | exact hBd | exact balloc hBd _)) (HL.out.below (by first | exact hBd | exact balloc hBd _)) (HW.out.below (by first | exact hBd | exact balloc hBd _))).mono ?_; rintro e w7 ⟨rfl, hbA⟩; have m0 := below_cell hbA (by first | exact m0 | exact alloc_cell m0 _); have m1 := below_cell hbA (by first | exact m1 | exact alloc_cell m1 _); have m2 := below_cell hbA (by first | exact m2 | exact alloc_cell m2 _); have m3 := below_cell hbA (by first | exact m3 | exact alloc_cell m3 _); have m4 := below_cell hbA (by first | exact m4 | exact alloc_cell m4 _); have m5 := below_cell hbA (by first | exact m5 | exact alloc_cell m5 _); (try have hP : cellsAt w7 W6.heap.size 94 #[.int .i64 0, .int .i64 0] := (cellsNew W6.drew #[.int .i64 0, .int .i64 0] 94).below hbA; (obtain ⟨g0, g1⟩ := cells2 hP); (have ff0 := hP.frozen 0); (have ff1 := hP.frozen 1)); have hbA := below_trans (by first | exact Below.refl W6.drew.heap.size W6.drew | exact balloc (Below.refl W6.drew.heap.size W6.drew) _) hbA; have hMd := hMd.below hbA; have hAd := hAd.below hbA; have hCd := hCd.below hbA; have hBd := below_trans hBd hbA))
        all_goals
          go_wp2_with fail
          go_meet
          first
            | (with_reducible exact ⟨rfl, _, rfl, cellsNew _ _ _, hCd.below (balloc (Below.refl _ _) _), hAd.below (balloc (Below.refl _ _) _), balloc hBd _⟩)
            | exact ⟨rfl, W6.heap.size, rfl, (hP.set 0 _).set 1 _, hCd.grown ((set1_grown _ _ 0 _).trans (set1_grown _ _ 1 _)) neC, hAd.grown ((set1_grown _ _ 0 _).trans (set1_grown _ _ 1 _)) neA, hBd.grown ((set1_grown _ _ 0 _).trans (set1_grown _ _ 1 _)) hBd.size (fun j e => by cases e; exact ne6)⟩
      case rest =>
        obtain ⟨rfl, cb, rfl, hD, hC, hA, hB⟩ := hcut
        obtain ⟨a0, a1⟩ := cells2 hA
        obtain ⟨b0, b1⟩ := cells2 hC
        obtain ⟨c0, c1⟩ := cells2 hD
        have hii := IntWalk.i64_in (Na + Nb) ⟨by omega, by omega⟩
        have HE3 : Hid (Na + Nb = N) := show _ = _ from e3
        have k1 : riskB N den = true := by simp [riskB, outB]; omega
        have k2 : riskB Na den = true := by simp [riskB, outB]; omega
        have hw1 : withB Na den N den = true := by
          simp only [withB, k1, k2, Bool.true_and, decide_eq_true_eq]
          exact Int.mul_le_mul_of_nonneg_right (by omega) (by omega)
        have hw2 : withB N den Na den = (decide (Nb = 0)) := by
          simp only [withB, k1, k2, Bool.true_and]
          rw [decide_eq_decide]
          constructor
          · intro h
            have := Int.le_of_mul_le_mul_right h (by omega)
            omega
          · intro h
            exact Int.mul_le_mul_of_nonneg_right (by omega) (by omega)
        have hx1 : withE Na den N den = 0 := by simp [withE, k1, k2]
        have hx2 : withE N den Na den = 0 := by simp [withE, k1, k2]
        have HW1 := Lib.hid (fun W => within_any Na den N den W)
        have HW2 := Lib.hid (fun W => within_any N den Na den W)
        rw [hw1, hx1] at HW1
        obtain ⟨qb, hqb⟩ : ∃ qb, (Nb == 0) = qb := ⟨_, rfl⟩
        have hdq : decide (Nb = 0) = qb := by rw [← hqb]; rfl
        rw [hw2, hx2, hdq] at HW2
        have hne : (Na + Nb != N) = false := by simp [e3]
        clear e3 k1 k2 hw1 hw2 hx1 hx2 hdq
        go_wp2_with fail
        refine (HW1.out _).mono ?_
        rintro e w2 ⟨rfl, hb2⟩
        have hA := hA.below hb2
        have hC := hC.below hb2
        have hD := hD.below hb2
        have hB := below_trans hB hb2
        obtain ⟨a0, a1⟩ := cells2 hA
        obtain ⟨b0, b1⟩ := cells2 hC
        obtain ⟨c0, c1⟩ := cells2 hD
        clear hb2
        go_wp2_with fail
        refine (HW2.out _).mono ?_
        rintro e w3 ⟨rfl, hb3⟩
        have hA := hA.below hb3
        have hC := hC.below hb3
        have hD := hD.below hb3
        have hB := below_trans hB hb3
        obtain ⟨a0, a1⟩ := cells2 hA
        obtain ⟨b0, b1⟩ := cells2 hC
        obtain ⟨c0, c1⟩ := cells2 hD
        clear hb3
        go_wp2_with fail
        refine (awake_true _ (HT.out.below hB)).mono ?_
        rintro e w4 ⟨rfl, hb4⟩
        go_wp2_with fail
        go_ret
        exact ⟨rfl, below_trans hB hb4⟩
  · have h0' : (riskE cx cy size cols rows zs l ws != 0) = true := by simpa using h0
    clear h0 HR hl hw hv
    generalize riskN cx cy size cols rows zs l ws = N at *
    generalize riskD cx cy size cols rows zs l ws = D at *
    generalize riskE cx cy size cols rows zs l ws = E at *
    go_enter Tryz.func13, Tryz.ntmps13
    go_wp2_with fail
    have hB : Below w.heap.size w (w.alloc (.cells #[.int .i64 cx, .int .i64 cy, .int .i64 size, .int .i64 cols, .int .i64 rows, .slice pa zs.length pc] 42)) := (by repeat (first | exact Below.refl _ _ | assumption | refine balloc ?_ _ | refine below_trans ?_ (by assumption) | refine Below.drew ?_ | refine below_drewN ?_ _ | refine Below.setCell ?_ (by simp <;> omega) _))
    generalize w.alloc (.cells #[.int .i64 cx, .int .i64 cy, .int .i64 size, .int .i64 cols, .int .i64 rows, .slice pa zs.length pc] 42) = W0 at *
    refine (HR0.out _ (HV.out.below hB) (HL.out.below hB) (HW.out.below hB)).mono ?_
    rintro e w1 ⟨rfl, hb1⟩
    have hB := balloc (below_trans hB hb1) (.cells #[.int .i64 N, .int .i64 D] 94)
    go_wp2_with fail
    refine (awake_true _ (HT.out.below hB)).mono ?_
    rintro e w2 ⟨rfl, hb2⟩
    go_wp2_with fail
    go_ret
    exact ⟨rfl, below_trans hB hb2⟩
end Go.Proofs.YtmglbegbijofkaaGreatDoor
