import Derived.Test.YtmglbegbijofkaaGreatDoorWQ
import Derived.Test.YtmglbegbijofkaaGreatDoorW22
set_option linter.unusedVariables false
set_option linter.unusedSimpArgs false
namespace Go.Proofs.YtmglbegbijofkaaGreatDoor
open Go.RowKit Go.Shelf Go.Sort
theorem mN_zero {cx cy size cols rows : Int} {zs : List Int} {xl xh yl yh lethal cap : Int} (h : ¬ mE cx cy size cols rows zs xl xh yl yh lethal cap = 0) : mN cx cy size cols rows zs xl xh yl yh lethal cap = 0 := if_neg h
set_option maxRecDepth 100000 in
set_option maxHeartbeats 4000000 in
theorem rrisk_any (cx cy size cols rows : Int) (pv lv wv : Value) (zs : List Int) (l : List Impact) (ws : List (Int × Int)) (w : World) (hv : IntsAt w pv zs) (hl : ImpactsAt w lv l) (hw : SpansAt w wv ws) (hn : zs.length ≤ 9223372036854775806) (hll : l.length ≤ 9223372036854775806) (hwl : ws.length ≤ 9223372036854775806) :
    Calls Tryz.prog 42 #[.agg #[.int .i64 cx, .int .i64 cy, .int .i64 size, .int .i64 cols, .int .i64 rows, pv], lv, wv] w fun e w' =>
      RiskEnd (riskN cx cy size cols rows zs l ws) (riskD cx cy size cols rows zs l ws) (riskE cx cy size cols rows zs l ws) e ∧ Below w.heap.size w w' := by
  obtain ⟨pa, pc, rfl, hx⟩ := id hv
  clear hx
  obtain ⟨la, lc, rfl, hx⟩ := id hl
  clear hx
  obtain ⟨wa, wc, rfl, hx⟩ := id hw
  clear hx
  have HV := Lib.hid hv
  have HL := Lib.hid hl
  have HW := Lib.hid hw
  have HCK := Lib.hid (fun W (h : IntsAt W (.slice pa zs.length pc) zs) => rgood_any cx cy size cols rows _ zs W h hn)
  clear hv hl hw
  have HBAD : Hid (∀ k, riskE cx cy size cols rows zs l ws = k → ¬ k = 0 → _) := show ∀ _, _ from fun k h h2 => riskEnd_bad (cx := cx) (cy := cy) (size := size) (cols := cols) (rows := rows) (zs := zs) (l := l) (ws := ws) h h2
  by_cases hck : chkE cx cy size cols rows zs = 0
  · obtain ⟨hmb, hzl, hix⟩ := chkE_zero hck
    obtain ⟨_, _, ⟨u5, u6⟩, _⟩ := mapB_false.1 hmb
    clear hmb hzl hix
    rw [hck] at HCK
    by_cases h12 : 12 < l.length
    · have HE : Hid (riskE cx cy size cols rows zs l ws = 3) := show _ = _ from by unfold riskE; rw [if_neg (by omega), if_pos h12]
      have h12' : (12 : Int) < (l.length : Int) := by omega
      clear hck
      go_enter Tryz.func42, Tryz.ntmps42
      go_wp2_with fail
      obtain ⟨hM, hZ, hz, hB⟩ := alloc2 w #[.int .i64 cx, .int .i64 cy, .int .i64 size, .int .i64 cols, .int .i64 rows, .slice pa zs.length pc] #[.int .i64 0, .int .i64 0] 42 94
      clear hz
      generalize (w.alloc (.cells #[.int .i64 cx, .int .i64 cy, .int .i64 size, .int .i64 cols, .int .i64 rows, .slice pa zs.length pc] 42)).alloc (.cells #[.int .i64 0, .int .i64 0] 94) = W0 at *
      refine (HCK.out _ (HV.out.below hB)).mono ?_
      rintro e w1 ⟨rfl, hb1⟩
      have hM := hM.below hb1
      have hZ := hZ.below hb1
      have hB := below_trans hB hb1
      clear hb1
      clear hM
      go_wp2_with fail
      go_loopw [8, 9, 10] (fun ev nv i wx => ev = .int .i64 3 ∧ nv = .int .i64 0 ∧ i = .int .i64 0 ∧ cellsAt wx (w.heap.size + 1) 94 #[.int .i64 0, .int .i64 0] ∧ Below w.heap.size w wx) (fun _ _ _ _ => 0)
      case atStart => exact ⟨rfl, rfl, rfl, hZ, hB⟩
      case round =>
        clear hZ hB
        obtain ⟨rfl, rfl, rfl, hZ, hB⟩ := hrel
        obtain ⟨z0, z1⟩ := cells2 hZ
        have f0 := hZ.frozen 0
        have f1 := hZ.frozen 1
        by_cases hl0 : (0 : Int) < (l.length : Int)
        all_goals
          first
            | (exfalso; omega)
            | skip
          all_goals (go_wp2_with fail)
          all_goals (refine bodyPost_ret (v := .tuple #[.agg #[.int .i64 0, .int .i64 0], .int .i64 3]) (by simp [results, Tryz.results42, go_sem, z0, z1]) rfl ⟨HBAD.out 3 HE.out (by omega), ?_⟩)
          all_goals (exact ((hB).setCell (by show w.heap.size ≤ w.heap.size + 1; omega) _).setCell (by show w.heap.size ≤ w.heap.size + 1; omega) _)
    · by_cases hle : l.length = ws.length
      · have HE : Hid (riskE cx cy size cols rows zs l ws = rkErr (rkE cx cy size cols rows zs) (l.zip ws)) := show _ = _ from by unfold riskE; rw [if_neg (by omega), if_neg h12, if_neg (by omega)]
        have hl12 : l.length ≤ 12 := by omega
        have h12' : ¬ (12 : Int) < (l.length : Int) := by omega
        have HZL : Hid ((l.zip ws).length = l.length) := show _ = _ from by rw [List.length_zip]; omega
        have hws12 : ws.length ≤ 12 := by omega
        have HLE := Lib.hid hle
        have hle2 : ((l.length : Int) != (ws.length : Int)) = false := bne_eq_false_iff_eq.2 (by omega)
        have HMN := Lib.hid (fun W xl xh yl yh lethal cap (hW : IntsAt W (.slice pa zs.length pc) zs) => rmost_num cx cy size cols rows _ zs xl xh yl yh lethal cap W hW hn)
        unfold MostNum at HMN
        clear hck hle h12
        have HOK : Hid (rkErr (rkE cx cy size cols rows zs) (l.zip ws) = 0 → ∀ e, e = .returned (.tuple #[.agg #[.int .i64 (rkSum (rkN cx cy size cols rows zs) (l.zip ws)), .int .i64 (1000000 * size * size)], .int .i64 0]) → RiskEnd (riskN cx cy size cols rows zs l ws) (riskD cx cy size cols rows zs l ws) (riskE cx cy size cols rows zs l ws) e) := show _ → ∀ _, _ → _ from fun h e he => by
          have h0 := HE.out.trans h
          unfold RiskEnd riskN riskD
          rw [h0, if_pos rfl, if_pos rfl]; exact he
        have HERR : Hid (∀ K, rkErr (rkE cx cy size cols rows zs) (l.zip ws) = K → ¬ K = 0 → RiskEnd (riskN cx cy size cols rows zs l ws) (riskD cx cy size cols rows zs l ws) (riskE cx cy size cols rows zs l ws) (.returned (.tuple #[.agg #[.int .i64 0, .int .i64 0], .int .i64 K]))) := show ∀ _, _ from fun K h h2 => HBAD.out K (HE.out.trans h) h2
        have HDR : Hid (∀ k, k < l.length → rkErr (rkE cx cy size cols rows zs) ((l.zip ws).drop k) = if rkE cx cy size cols rows zs (imAt l k, ws.getD k (0, 0)) = 0 then rkErr (rkE cx cy size cols rows zs) ((l.zip ws).drop (k + 1)) else rkE cx cy size cols rows zs (imAt l k, ws.getD k (0, 0))) := show ∀ _, _ from fun k hk => rk_drop HLE.out hk
        have HTK : Hid (∀ k, k < l.length → rkSum (rkN cx cy size cols rows zs) ((l.zip ws).take (k + 1)) = rkSum (rkN cx cy size cols rows zs) ((l.zip ws).take k) + rkN cx cy size cols rows zs (imAt l k, ws.getD k (0, 0))) := show ∀ _, _ from fun k hk => rk_take HLE.out hk
        have HRE : Hid (∀ p, rkE cx cy size cols rows zs p = if strangeI p.1 then 7 else mE cx cy size cols rows zs p.1.xl p.1.xh p.1.yl p.1.yh p.2.1 p.2.2) := show ∀ _, _ from fun p => rfl
        have HRN : Hid (∀ p, rkN cx cy size cols rows zs p = mN cx cy size cols rows zs p.1.xl p.1.xh p.1.yl p.1.yh p.2.1 p.2.2 * p.2.1) := show ∀ _, _ from fun p => rfl
        have HRB : Hid (∀ p, rkE cx cy size cols rows zs p = 0 → _) := show ∀ _, _ from fun p hp => rk_bd hp
        have HRZ : Hid (∀ xl xh yl yh q1 q2, ¬ mE cx cy size cols rows zs xl xh yl yh q1 q2 = 0 → mN cx cy size cols rows zs xl xh yl yh q1 q2 = 0) := show ∀ _ _ _ _ _ _, _ → _ from fun xl xh yl yh q1 q2 h => mN_zero h
        generalize riskN cx cy size cols rows zs l ws = RN at *
        generalize riskD cx cy size cols rows zs l ws = RD at *
        generalize riskE cx cy size cols rows zs l ws = RE at *
        clear HBAD HE HZL
        go_enter Tryz.func42, Tryz.ntmps42
        go_wp2_with fail
        obtain ⟨hM, hZ, hz, hB⟩ := alloc2 w #[.int .i64 cx, .int .i64 cy, .int .i64 size, .int .i64 cols, .int .i64 rows, .slice pa zs.length pc] #[.int .i64 0, .int .i64 0] 42 94
        clear hz
        generalize (w.alloc (.cells #[.int .i64 cx, .int .i64 cy, .int .i64 size, .int .i64 cols, .int .i64 rows, .slice pa zs.length pc] 42)).alloc (.cells #[.int .i64 0, .int .i64 0] 94) = W0 at *
        refine (HCK.out _ (HV.out.below hB)).mono ?_
        rintro e w1 ⟨rfl, hb1⟩
        have hM := hM.below hb1
        have hZ := hZ.below hb1
        have hB := below_trans hB hb1
        clear hb1
        obtain ⟨d1, d2⟩ := mul_bd (1000000 * size) size 100000000000 100000 (by omega) (by omega) (by omega) u6
        have P0 := Lib.hid (IntWalk.i64_in (1000000 * size) ⟨by omega, by omega⟩)
        have P1 := Lib.hid (IntWalk.i64_in (1000000 * size * size) ⟨by omega, by omega⟩)
        clear d1 d2
        go_wp2_with fail
        go_loopw [8, 9, 10] (fun ev nv i wr => ∃ (k : Nat) (num e : Int), k ≤ l.length ∧ i = .int .i64 k ∧ nv = .int .i64 num ∧ ev = .int .i64 e ∧ 0 ≤ num ∧ num ≤ k * 10000000000000000 ∧ Hid ((e = 0 → num = rkSum (rkN cx cy size cols rows zs) ((l.zip ws).take k) ∧ rkErr (rkE cx cy size cols rows zs) (l.zip ws) = rkErr (rkE cx cy size cols rows zs) ((l.zip ws).drop k)) ∧ (¬ e = 0 → rkErr (rkE cx cy size cols rows zs) (l.zip ws) = e)) ∧ Hid (cellsAt wr w.heap.size 42 #[.int .i64 cx, .int .i64 cy, .int .i64 size, .int .i64 cols, .int .i64 rows, .slice pa zs.length pc]) ∧ Hid (cellsAt wr (w.heap.size + 1) 94 #[.int .i64 0, .int .i64 0]) ∧ Below w.heap.size w wr) (fun _ _ i _ => l.length - (intOf i).toNat)
        case atStart => exact ⟨0, 0, 0, Nat.zero_le _, rfl, rfl, rfl, by omega, by omega, show _ ∧ _ from ⟨fun _ => by simp [rkSum], fun h => absurd rfl h⟩, hM, hZ, hB⟩
        case round =>
          clear hM hZ hB
          obtain ⟨k, num, e, hk, rfl, rfl, rfl, hn0, hn1, HIV, HM3, HZ3, hB3⟩ := hrel
          by_cases he : e = 0
          · subst he
            have HNU := Lib.hid (HIV.out.1 rfl).1
            have HER := Lib.hid (HIV.out.1 rfl).2
            clear HIV
            by_cases hlt : k < l.length
            · obtain ⟨a', c', hac, h0 | ⟨b, off, rfl, hb, hc⟩⟩ := HL.out.below hB3
              · omega
              simp only [Value.slice.injEq] at hac
              obtain ⟨rfl, _, rfl⟩ := hac
              obtain ⟨j0, j1, j2, j3, j4, j5, j6⟩ := impact_cells hc hlt
              have hltw : k < ws.length := by have := HLE.out; omega
              have HDK := Lib.hid (HDR.out k hlt)
              have HTT := Lib.hid (HTK.out k hlt)
              have hgd : ws.getD k (0, 0) = ws[k] := by simp [hltw]
              have HGD := Lib.hid hgd
              clear hgd hc
              generalize imAt l k = x at *
              obtain ⟨xp, xxl, xxh, xyl, xyh, xtl, xth⟩ := x
              simp only at j0 j1 j2 j3 j4 j5 j6
              have i1 : (0 : Int) ≤ (k : Int) := by omega
              have i2 : (k : Int) < (l.length : Int) := by omega
              have i3 : (k : Int) < (ws.length : Int) := by omega
              go_wp2_with fail
              refine (rimpact_any _ _ _ _ _ _ _ _).mono ?_
              rintro e w5 ⟨rfl, hb5⟩
              have hM5 := HM3.out.below hb5
              have hZ5 := HZ3.out.below hb5
              have hB5 := below_trans hB3 hb5
              have j1 := below_cell hb5 j1
              have j2 := below_cell hb5 j2
              have j3 := below_cell hb5 j3
              have j4 := below_cell hb5 j4
              clear j0 j5 j6 hb5 HM3 HZ3
              cases hs : strangeB xp xxl xxh xyl xyh xtl xth with
              | true =>
                have HS : Hid (rkErr (rkE cx cy size cols rows zs) (l.zip ws) = 7) := show _ = _ from by
                  have e7 : rkE cx cy size cols rows zs (⟨xp, xxl, xxh, xyl, xyh, xtl, xth⟩, ws.getD k (0, 0)) = 7 := by rw [HRE.out]; exact if_pos hs
                  rw [HER.out, HDK.out, e7]; rfl
                clear j1 j2 j3 j4
                simp only [Bool.not_true]
                go_wp2_with fail
                go_roundw
                case rel => exact ⟨k + 1, num, 7, by omega, by go_num, rfl, rfl, hn0, (by push_cast; omega), show _ ∧ _ from ⟨fun h => by omega, fun _ => HS.out⟩, hM5, hZ5, hB5⟩
                case measure => simp [intOf]; omega
              | false =>
                obtain ⟨a4, c4, hac, h0 | ⟨b4, off4, rfl, hb4, hc4⟩⟩ := HW.out.below hB5
                · omega
                simp only [Value.slice.injEq] at hac
                obtain ⟨rfl, _, rfl⟩ := hac
                have q0 := hc4 (k * 2) (by omega)
                have q1 := hc4 (k * 2 + 1) (by omega)
                rw [spanF_even ws k hltw] at q0
                rw [spanF_odd ws k hltw, ← Nat.add_assoc] at q1
                have HQE : Hid (rkE cx cy size cols rows zs (⟨xp, xxl, xxh, xyl, xyh, xtl, xth⟩, ws.getD k (0, 0)) = mE cx cy size cols rows zs xxl xxh xyl xyh ws[k].1 ws[k].2) := show _ = _ from by rw [HGD.out, HRE.out]; exact if_neg (fun h => by have h2 : strangeB xp xxl xxh xyl xyh xtl xth = true := h; rw [hs] at h2; cases h2)
                have HQN : Hid (rkN cx cy size cols rows zs (⟨xp, xxl, xxh, xyl, xyh, xtl, xth⟩, ws.getD k (0, 0)) = mN cx cy size cols rows zs xxl xxh xyl xyh ws[k].1 ws[k].2 * ws[k].1) := show _ = _ from by rw [HGD.out, HRN.out]
                have HCA := Lib.hid (fun W (hW : IntsAt W (.slice pa zs.length pc) zs) => HMN.out W xxl xxh xyl xyh ws[k].1 ws[k].2 hW)
                have HBB := Lib.hid (HRB.out (⟨xp, xxl, xxh, xyl, xyh, xtl, xth⟩, ws.getD k (0, 0)))
                have HZZ := Lib.hid (HRZ.out xxl xxh xyl xyh ws[k].1 ws[k].2)
                generalize mE cx cy size cols rows zs xxl xxh xyl xyh ws[k].1 ws[k].2 = ke at *
                generalize mN cx cy size cols rows zs xxl xxh xyl xyh ws[k].1 ws[k].2 = kn at *
                generalize ws[k].1 = q1v at *
                generalize ws[k].2 = q2v at *
                have HBD : Hid (0 ≤ kn * q1v ∧ kn * q1v ≤ 10000000000000000) := show _ ∧ _ from by
                  by_cases hke : ke = 0
                  · have hbb := HBB.out (by rw [HQE.out]; exact hke)
                    rw [HQN.out] at hbb
                    exact hbb
                  · rw [HZZ.out hke]; omega
                have HIN : Hid ((ke = 0 → num + kn * q1v = rkSum (rkN cx cy size cols rows zs) ((l.zip ws).take (k + 1)) ∧ rkErr (rkE cx cy size cols rows zs) (l.zip ws) = rkErr (rkE cx cy size cols rows zs) ((l.zip ws).drop (k + 1))) ∧ (¬ ke = 0 → rkErr (rkE cx cy size cols rows zs) (l.zip ws) = ke)) := show _ ∧ _ from
                  ⟨fun h => ⟨by rw [HTT.out, HQN.out, HNU.out], by rw [HER.out, HDK.out, HQE.out, if_pos h]⟩, fun h => by rw [HER.out, HDK.out, HQE.out, if_neg h]⟩
                obtain ⟨kb0, kb1⟩ := HBD.out
                have o1 := IntWalk.i64_in (kn * q1v) ⟨by omega, by omega⟩
                have o2 := IntWalk.i64_in (num + kn * q1v) ⟨by omega, by omega⟩
                have HNB2 := Lib.hid (show 0 ≤ num + kn * q1v ∧ num + kn * q1v ≤ (k : Int) * 10000000000000000 + 10000000000000000 by omega)
                obtain ⟨m0, m1, m2, m3, m4, m5⟩ := cells6 hM5
                have hMd := hM5.drew
                have hZd := hZ5.drew
                have hBd := hB5.drew
                clear hc4 hs hM5 hZ5 hB5 hB3 HBD HBB HZZ HNU HER HQE HQN
                simp only [Bool.not_false]
                go_wp2_with fail
                go_region_held3 (fun w' => w'.cell? ⟨w.heap.size, 0, none⟩ = some (.int .i64 cx) ∧ w'.cell? ⟨w.heap.size, 1, none⟩ = some (.int .i64 cy) ∧ w'.cell? ⟨w.heap.size, 2, none⟩ = some (.int .i64 size) ∧ w'.cell? ⟨w.heap.size, 3, none⟩ = some (.int .i64 cols) ∧ w'.cell? ⟨w.heap.size, 4, none⟩ = some (.int .i64 rows) ∧ w'.cell? ⟨w.heap.size, 5, none⟩ = some (.slice pa zs.length pc) ∧ w'.cell? ⟨b, off + k * 7 + 1, none⟩ = some (.int .i64 xxl) ∧ w'.cell? ⟨b, off + k * 7 + 2, none⟩ = some (.int .i64 xxh) ∧ w'.cell? ⟨b, off + k * 7 + 3, none⟩ = some (.int .i64 xyl) ∧ w'.cell? ⟨b, off + k * 7 + 4, none⟩ = some (.int .i64 xyh) ∧ w'.cell? ⟨b4, off4 + k * 2, none⟩ = some (.int .i64 q1v) ∧ w'.cell? ⟨b4, off4 + k * 2 + 1, none⟩ = some (.int .i64 q2v)) (first | (with_reducible exact ⟨m0, m1, m2, m3, m4, m5, j1, j2, j3, j4, q0, q1⟩) | go_keep) ((go_at_call 50; refine (HCA.out _ (HV.out.below hBd)).mono ?_; rintro e w7 ⟨va, vm, vc, y1, y2, rfl, hbA⟩; have m0 := below_cell hbA m0; have m1 := below_cell hbA m1; have m2 := below_cell hbA m2; have m3 := below_cell hbA m3; have m4 := below_cell hbA m4; have m5 := below_cell hbA m5; have j1 := below_cell hbA j1; have j2 := below_cell hbA j2; have j3 := below_cell hbA j3; have j4 := below_cell hbA j4; have q0 := below_cell hbA q0; have q1 := below_cell hbA q1; have hMd := hMd.below hbA; have hZd := hZd.below hbA; have hBd := below_trans hBd hbA))
                go_wp2_with fail
                go_roundw
                case rel => exact ⟨k + 1, num + kn * q1v, ke, by omega, by go_num, rfl, rfl, HNB2.out.1, (by have := HNB2.out.2; push_cast; omega), HIN.out, hMd, hZd, hBd⟩
                case measure => simp [intOf]; omega
            · obtain rfl : k = l.length := by omega
              have hzl : (l.zip ws).length = l.length := by have := HLE.out; rw [List.length_zip]; omega
              have HE0 : Hid (rkErr (rkE cx cy size cols rows zs) (l.zip ws) = 0) := show _ = _ from by rw [HER.out, List.drop_of_length_le (by omega)]; rfl
              have HN0 : Hid (num = rkSum (rkN cx cy size cols rows zs) (l.zip ws)) := show _ = _ from by rw [HNU.out, List.take_of_length_le (by omega)]
              have hOK2 := HOK.out HE0.out
              rw [← HN0.out] at hOK2
              have HOK2 := Lib.hid hOK2
              obtain ⟨m0, m1, m2, m3, m4, m5⟩ := cells6 HM3.out
              obtain ⟨z0, z1⟩ := cells2 HZ3.out
              have f0 := HZ3.out.frozen 0
              have f1 := HZ3.out.frozen 1
              have p0 := P0.out
              have p1 := P1.out
              clear hzl hOK2 HN0 HER HNU
              go_wp2_with fail
              refine bodyPost_ret (v := .tuple #[.agg #[.int .i64 num, .int .i64 (1000000 * size * size)], .int .i64 0]) (by simp [results, Tryz.results42, go_sem, z0, z1]) rfl ⟨HOK2.out _ rfl, ?_⟩
              exact ((hB3).setCell (by show w.heap.size ≤ w.heap.size + 1; omega) _).setCell (by show w.heap.size ≤ w.heap.size + 1; omega) _
          · have HS := Lib.hid (HIV.out.2 he)
            have HN := Lib.hid he
            have he1 : (e == 0) = false := by simpa using he
            have he2 : (e != 0) = true := by simpa using he
            obtain ⟨z0, z1⟩ := cells2 HZ3.out
            have f0 := HZ3.out.frozen 0
            have f1 := HZ3.out.frozen 1
            clear he HIV
            by_cases hlt : (k : Int) < (l.length : Int)
            all_goals
              go_wp2_with fail
              refine bodyPost_ret (v := .tuple #[.agg #[.int .i64 0, .int .i64 0], .int .i64 e]) (by simp [results, Tryz.results42, go_sem, z0, z1]) rfl ⟨HERR.out e HS.out HN.out, ?_⟩
              exact ((hB3).setCell (by show w.heap.size ≤ w.heap.size + 1; omega) _).setCell (by show w.heap.size ≤ w.heap.size + 1; omega) _
      · have HE : Hid (riskE cx cy size cols rows zs l ws = 2) := show _ = _ from by unfold riskE; rw [if_neg (by omega), if_neg h12, if_pos hle]
        have hle2 : ((l.length : Int) != (ws.length : Int)) = true := bne_iff_ne.2 (by omega)
        have h12' : ¬ (12 : Int) < (l.length : Int) := by omega
        clear hck hle h12
        go_enter Tryz.func42, Tryz.ntmps42
        go_wp2_with fail
        obtain ⟨hM, hZ, hz, hB⟩ := alloc2 w #[.int .i64 cx, .int .i64 cy, .int .i64 size, .int .i64 cols, .int .i64 rows, .slice pa zs.length pc] #[.int .i64 0, .int .i64 0] 42 94
        clear hz
        generalize (w.alloc (.cells #[.int .i64 cx, .int .i64 cy, .int .i64 size, .int .i64 cols, .int .i64 rows, .slice pa zs.length pc] 42)).alloc (.cells #[.int .i64 0, .int .i64 0] 94) = W0 at *
        refine (HCK.out _ (HV.out.below hB)).mono ?_
        rintro e w1 ⟨rfl, hb1⟩
        have hM := hM.below hb1
        have hZ := hZ.below hb1
        have hB := below_trans hB hb1
        clear hb1
        clear hM
        go_wp2_with fail
        go_loopw [8, 9, 10] (fun ev nv i wx => ev = .int .i64 2 ∧ nv = .int .i64 0 ∧ i = .int .i64 0 ∧ cellsAt wx (w.heap.size + 1) 94 #[.int .i64 0, .int .i64 0] ∧ Below w.heap.size w wx) (fun _ _ _ _ => 0)
        case atStart => exact ⟨rfl, rfl, rfl, hZ, hB⟩
        case round =>
          clear hZ hB
          obtain ⟨rfl, rfl, rfl, hZ, hB⟩ := hrel
          obtain ⟨z0, z1⟩ := cells2 hZ
          have f0 := hZ.frozen 0
          have f1 := hZ.frozen 1
          by_cases hl0 : (0 : Int) < (l.length : Int)
          all_goals
            first
              | (exfalso; omega)
              | skip
            all_goals (go_wp2_with fail)
            all_goals (refine bodyPost_ret (v := .tuple #[.agg #[.int .i64 0, .int .i64 0], .int .i64 2]) (by simp [results, Tryz.results42, go_sem, z0, z1]) rfl ⟨HBAD.out 2 HE.out (by omega), ?_⟩)
            all_goals (exact ((hB).setCell (by show w.heap.size ≤ w.heap.size + 1; omega) _).setCell (by show w.heap.size ≤ w.heap.size + 1; omega) _)
  · have HE : Hid (riskE cx cy size cols rows zs l ws = chkE cx cy size cols rows zs) := show _ = _ from by unfold riskE; rw [if_pos hck]
    have hck' : (chkE cx cy size cols rows zs != 0) = true := by simpa using hck
    have hck2 : (chkE cx cy size cols rows zs == 0) = false := by simpa using hck
    have HN := Lib.hid hck
    clear hck
    generalize chkE cx cy size cols rows zs = K at *
    go_enter Tryz.func42, Tryz.ntmps42
    go_wp2_with fail
    obtain ⟨hM, hZ, hz, hB⟩ := alloc2 w #[.int .i64 cx, .int .i64 cy, .int .i64 size, .int .i64 cols, .int .i64 rows, .slice pa zs.length pc] #[.int .i64 0, .int .i64 0] 42 94
    clear hz
    generalize (w.alloc (.cells #[.int .i64 cx, .int .i64 cy, .int .i64 size, .int .i64 cols, .int .i64 rows, .slice pa zs.length pc] 42)).alloc (.cells #[.int .i64 0, .int .i64 0] 94) = W0 at *
    refine (HCK.out _ (HV.out.below hB)).mono ?_
    rintro e w1 ⟨rfl, hb1⟩
    have hM := hM.below hb1
    have hZ := hZ.below hb1
    have hB := below_trans hB hb1
    clear hb1
    clear hM
    go_wp2_with fail
    go_loopw [8, 9, 10] (fun ev nv i wx => ev = .int .i64 K ∧ nv = .int .i64 0 ∧ i = .int .i64 0 ∧ cellsAt wx (w.heap.size + 1) 94 #[.int .i64 0, .int .i64 0] ∧ Below w.heap.size w wx) (fun _ _ _ _ => 0)
    case atStart => exact ⟨rfl, rfl, rfl, hZ, hB⟩
    case round =>
      clear hZ hB
      obtain ⟨rfl, rfl, rfl, hZ, hB⟩ := hrel
      obtain ⟨z0, z1⟩ := cells2 hZ
      have f0 := hZ.frozen 0
      have f1 := hZ.frozen 1
      by_cases hl0 : (0 : Int) < (l.length : Int)
      all_goals
        first
          | (exfalso; omega)
          | skip
        all_goals (go_wp2_with fail)
        all_goals (refine bodyPost_ret (v := .tuple #[.agg #[.int .i64 0, .int .i64 0], .int .i64 K]) (by simp [results, Tryz.results42, go_sem, z0, z1]) rfl ⟨HBAD.out K HE.out HN.out, ?_⟩)
        all_goals (exact ((hB).setCell (by show w.heap.size ≤ w.heap.size + 1; omega) _).setCell (by show w.heap.size ≤ w.heap.size + 1; omega) _)
end Go.Proofs.YtmglbegbijofkaaGreatDoor
namespace Go.Proofs.YtmglbegbijofkaaGreatDoor
open Go.RowKit Go.Shelf Go.Sort
set_option maxRecDepth 100000 in
set_option maxHeartbeats 800000 in
theorem law10 (cx cy size cols rows : Int) (pv : Value) (zs : List Int) (lv : Value) (l : List Impact) (wv : Value) (ws : List (Int × Int)) (w : World) (hv : IntsAt w pv zs) (hl : ImpactsAt w lv l) (hw : SpansAt w wv ws) (hn : zs.length ≤ 9223372036854775806) (hll : l.length ≤ 9223372036854775806) (hwl : ws.length ≤ 9223372036854775806) (ht : Tab10 w) :
    Calls Tryz.prog 10 #[.agg #[.int .i64 cx, .int .i64 cy, .int .i64 size, .int .i64 cols, .int .i64 rows, pv], lv, wv] w fun e w' => e = .returned (.bool true) ∧ Below w.heap.size w w' := by
  obtain ⟨pa, pc, rfl, hx⟩ := id hv
  clear hx
  obtain ⟨la, lc, rfl, hx⟩ := id hl
  clear hx
  obtain ⟨wa, wc, rfl, hx⟩ := id hw
  clear hx
  have HV := Lib.hid hv
  have HL := Lib.hid hl
  have HW := Lib.hid hw
  have HT := Lib.hid ht
  clear hv hl hw ht
  have HR1 := Lib.hid (fun W (h1 : IntsAt W (.slice pa zs.length pc) zs) (h2 : ImpactsAt W (.slice la l.length lc) l) (h3 : SpansAt W (.slice wa ws.length wc) ws) => hrisk_any cx cy size cols rows _ _ _ zs l ws W h1 h2 h3 hn hll hwl)
  have HR2 := Lib.hid (fun W (h1 : IntsAt W (.slice pa zs.length pc) zs) (h2 : ImpactsAt W (.slice la l.length lc) l) (h3 : SpansAt W (.slice wa ws.length wc) ws) => rrisk_any cx cy size cols rows _ _ _ zs l ws W h1 h2 h3 hn hll hwl)
  unfold RiskEnd at HR1 HR2
  generalize riskN cx cy size cols rows zs l ws = RN at *
  generalize riskD cx cy size cols rows zs l ws = RD at *
  generalize riskE cx cy size cols rows zs l ws = RE at *
  go_enter Tryz.func10, Tryz.ntmps10
  go_wp2_with fail
  have hM := cellsNew w #[.int .i64 cx, .int .i64 cy, .int .i64 size, .int .i64 cols, .int .i64 rows, .slice pa zs.length pc] 42
  have hB : Below w.heap.size w (w.alloc (.cells #[.int .i64 cx, .int .i64 cy, .int .i64 size, .int .i64 cols, .int .i64 rows, .slice pa zs.length pc] 42)) := (by repeat (first | exact Below.refl _ _ | assumption | refine balloc ?_ _ | refine below_trans ?_ (by assumption) | refine Below.drew ?_ | refine below_drewN ?_ _ | refine Below.setCell ?_ (by simp <;> omega) _))
  generalize w.alloc (.cells #[.int .i64 cx, .int .i64 cy, .int .i64 size, .int .i64 cols, .int .i64 rows, .slice pa zs.length pc] 42) = W0 at *
  refine (HR1.out _ (HV.out.below hB) (HL.out.below hB) (HW.out.below hB)).mono ?_
  rintro e w1 ⟨rfl, hb1⟩
  have hR1 := cellsNew w1 #[.int .i64 RN, .int .i64 RD] 94
  have hbR : Below w1.heap.size w1 (w1.alloc (.cells #[.int .i64 RN, .int .i64 RD] 94)) := balloc (Below.refl _ _) _
  have hM := (hM.below hb1).below hbR
  have hB := below_trans (below_trans hB hb1) hbR
  obtain ⟨m0, m1, m2, m3, m4, m5⟩ := cells6 hM
  go_wp2_with fail
  generalize w1.alloc (.cells #[.int .i64 RN, .int .i64 RD] 94) = W2 at *
  refine (HR2.out _ (HV.out.below hB) (HL.out.below hB) (HW.out.below hB)).mono ?_
  rintro e w3 ⟨rfl, hb3⟩
  clear m0 m1 m2 m3 m4 m5
  have hR2 := cellsNew w3 #[.int .i64 RN, .int .i64 RD] 94
  have hbR2 : Below w3.heap.size w3 (w3.alloc (.cells #[.int .i64 RN, .int .i64 RD] 94)) := balloc (Below.refl _ _) _
  have hR1 := (hR1.below hb3).below hbR2
  have hB := below_trans (below_trans hB hb3) hbR2
  obtain ⟨y0, y1⟩ := cells2 hR1
  obtain ⟨z0, z1⟩ := cells2 hR2
  clear hM
  go_wp2_with fail
  refine (awake_true _ (HT.out.below hB)).mono ?_
  rintro e w6 ⟨rfl, hb6⟩
  go_wp2_with fail
  go_ret
  exact ⟨rfl, below_trans hB hb6⟩
end Go.Proofs.YtmglbegbijofkaaGreatDoor
