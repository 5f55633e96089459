import Derived.Test.YtmglbegbijofkaaGreatDoorQ22
import Derived.Deep.DeepCutAuto
set_option linter.unusedVariables false
set_option linter.unusedSimpArgs false
namespace Go.Proofs.YtmglbegbijofkaaGreatDoor
open Go.RowKit Go.Shelf Go.Sort
theorem zip_at {l : List Impact} {ws : List (Int × Int)} {k : Nat} (hle : l.length = ws.length) (hk : k < l.length) (h : k < (l.zip ws).length) : (l.zip ws)[k] = (imAt l k, ws.getD k (0, 0)) := by
  rw [List.getElem_zip]
  have h2 : k < ws.length := by omega
  simp [imAt, hk, h2]
theorem rk_drop {f : Impact × (Int × Int) → Int} {l : List Impact} {ws : List (Int × Int)} {k : Nat} (hle : l.length = ws.length) (hk : k < l.length) : rkErr f ((l.zip ws).drop k) = if f (imAt l k, ws.getD k (0, 0)) = 0 then rkErr f ((l.zip ws).drop (k + 1)) else f (imAt l k, ws.getD k (0, 0)) := by
  have h : k < (l.zip ws).length := by rw [List.length_zip]; omega
  have e := rkErr_drop f (l.zip ws) k h
  rw [zip_at hle hk h] at e
  exact e
theorem rk_take {f : Impact × (Int × Int) → Int} {l : List Impact} {ws : List (Int × Int)} {k : Nat} (hle : l.length = ws.length) (hk : k < l.length) : rkSum f ((l.zip ws).take (k + 1)) = rkSum f ((l.zip ws).take k) + f (imAt l k, ws.getD k (0, 0)) := by
  have h : k < (l.zip ws).length := by rw [List.length_zip]; omega
  rw [rkSum_take f (l.zip ws) k h, zip_at hle hk h]
theorem set3_cell {X : World} {b : Nat} {u0 u1 u2 v : Value} {q : Addr} (hc : X.cell? q = some v) (hne : q.block ≠ b) : (((X.setCell ⟨b, 0, none⟩ u0).setCell ⟨b, 1, none⟩ u1).setCell ⟨b, 2, none⟩ u2).cell? q = some v := (set3_grown X b u0 u1 u2).cell hc (ne_some hne)
theorem cells7 {W : World} {b : Nat} {t : TypeId} {a0 a1 a2 a3 a4 a5 a6 : Value} (h : cellsAt W b t #[a0, a1, a2, a3, a4, a5, a6]) : W.cell? ⟨b, 0, none⟩ = some a0 ∧ W.cell? ⟨b, 1, none⟩ = some a1 ∧ W.cell? ⟨b, 2, none⟩ = some a2 ∧ W.cell? ⟨b, 3, none⟩ = some a3 ∧ W.cell? ⟨b, 4, none⟩ = some a4 ∧ W.cell? ⟨b, 5, none⟩ = some a5 ∧ W.cell? ⟨b, 6, none⟩ = some a6 :=
  ⟨h.cell 0, h.cell 1, h.cell 2, h.cell 3, h.cell 4, h.cell 5, h.cell 6⟩
set_option maxRecDepth 100000 in
set_option maxHeartbeats 4000000 in
theorem hrisk_any (cx cy size cols rows : Int) (pv lv wv : Value) (zs : List Int) (l : List Impact) (ws : List (Int × Int)) (w : World) (hv : IntsAt w pv zs) (hl : ImpactsAt w lv l) (hw : SpansAt w wv ws) (hn : zs.length ≤ 9223372036854775806) (hll : l.length ≤ 9223372036854775806) (hwl : ws.length ≤ 9223372036854775806) :
    Calls Tryz.prog 41 #[.agg #[.int .i64 cx, .int .i64 cy, .int .i64 size, .int .i64 cols, .int .i64 rows, pv], lv, wv] w fun e w' =>
      RiskEnd (riskN cx cy size cols rows zs l ws) (riskD cx cy size cols rows zs l ws) (riskE cx cy size cols rows zs l ws) e ∧ Below w.heap.size w w' := by
  obtain ⟨pa, pc, rfl, hx⟩ := id hv
  clear hx
  obtain ⟨la, lc, rfl, hx⟩ := id hl
  clear hx
  obtain ⟨wa, wc, rfl, hx⟩ := id hw
  clear hx
  have HV := Lib.hid hv
  have HL := Lib.hid hl
  have HW := Lib.hid hw
  have HCK := Lib.hid (fun W (h : IntsAt W (.slice pa zs.length pc) zs) => check_any cx cy size cols rows _ zs W h hn)
  clear hv hl hw
  unfold ErrTup at HCK
  have HBAD : Hid (∀ k, riskE cx cy size cols rows zs l ws = k → ¬ k = 0 → _) := show ∀ _, _ from fun k h h2 => riskEnd_bad (cx := cx) (cy := cy) (size := size) (cols := cols) (rows := rows) (zs := zs) (l := l) (ws := ws) h h2
  by_cases hck : chkE cx cy size cols rows zs = 0
  · obtain ⟨hmb, hzl, hix⟩ := chkE_zero hck
    obtain ⟨_, _, ⟨u5, u6⟩, _⟩ := mapB_false.1 hmb
    clear hmb hzl hix
    rw [hck] at HCK
    generalize chkPart cx cy size cols rows zs = A0 at *
    generalize chkAt cx cy size cols rows zs = A1 at *
    by_cases h12 : 12 < l.length
    · have HE : Hid (riskE cx cy size cols rows zs l ws = 3) := show _ = _ from by unfold riskE; rw [if_neg (by omega), if_pos h12]
      clear hck
      go_enter Tryz.func41, Tryz.ntmps41
      go_wp2_with fail
      obtain ⟨hM, hZ, hz, hB⟩ := alloc2 w #[.int .i64 cx, .int .i64 cy, .int .i64 size, .int .i64 cols, .int .i64 rows, .slice pa zs.length pc] #[.int .i64 0, .int .i64 0] 42 94
      clear hz
      generalize (w.alloc (.cells #[.int .i64 cx, .int .i64 cy, .int .i64 size, .int .i64 cols, .int .i64 rows, .slice pa zs.length pc] 42)).alloc (.cells #[.int .i64 0, .int .i64 0] 94) = W0 at *
      refine (HCK.out _ (HV.out.below hB)).mono ?_
      rintro e w1 ⟨rfl, hb1⟩
      have hM := hM.below hb1
      have hZ := hZ.below hb1
      have hB := below_trans hB hb1
      clear hb1
      obtain ⟨z0, z1⟩ := cells2 hZ
      have f0 := hZ.frozen 0
      have f1 := hZ.frozen 1
      go_wp2_with fail
      refine bodyPost_ret (v := .tuple #[.agg #[.int .i64 0, .int .i64 0], .int .i64 3]) (by simp [results, Tryz.results41, go_sem, z0, z1]) rfl ⟨HBAD.out 3 HE.out (by omega), ?_⟩
      exact ((hB).setCell (by show w.heap.size ≤ w.heap.size + 1; omega) _).setCell (by show w.heap.size ≤ w.heap.size + 1; omega) _
    · by_cases hle : l.length = ws.length
      · have HE : Hid (riskE cx cy size cols rows zs l ws = rkErr (rkE cx cy size cols rows zs) (l.zip ws)) := show _ = _ from by unfold riskE; rw [if_neg (by omega), if_neg h12, if_neg (by omega)]
        have hl12 : l.length ≤ 12 := by omega
        have HZL : Hid ((l.zip ws).length = l.length) := show _ = _ from by rw [List.length_zip]; omega
        have hws12 : ws.length ≤ 12 := by omega
        have HLE := Lib.hid hle
        have hle2 : ((l.length : Int) != (ws.length : Int)) = false := bne_eq_false_iff_eq.2 (by omega)
        have HMN := Lib.hid (fun W xl xh yl yh lethal cap (hW : IntsAt W (.slice pa zs.length pc) zs) => most_num cx cy size cols rows _ zs xl xh yl yh lethal cap W hW hn)
        unfold MostNum at HMN
        clear hck hle h12
        have HOK : Hid (rkErr (rkE cx cy size cols rows zs) (l.zip ws) = 0 → ∀ e, e = .returned (.tuple #[.agg #[.int .i64 (rkSum (rkN cx cy size cols rows zs) (l.zip ws)), .int .i64 (1000000 * size * size)], .int .i64 0]) → RiskEnd (riskN cx cy size cols rows zs l ws) (riskD cx cy size cols rows zs l ws) (riskE cx cy size cols rows zs l ws) e) := show _ → ∀ _, _ → _ from fun h e he => by
          have h0 := HE.out.trans h
          unfold RiskEnd riskN riskD
          rw [h0, if_pos rfl, if_pos rfl]; exact he
        have HERR : Hid (∀ K, rkErr (rkE cx cy size cols rows zs) (l.zip ws) = K → ¬ K = 0 → RiskEnd (riskN cx cy size cols rows zs l ws) (riskD cx cy size cols rows zs l ws) (riskE cx cy size cols rows zs l ws) (.returned (.tuple #[.agg #[.int .i64 0, .int .i64 0], .int .i64 K]))) := show ∀ _, _ from fun K h h2 => HBAD.out K (HE.out.trans h) h2
        have HDR : Hid (∀ k, k < l.length → rkErr (rkE cx cy size cols rows zs) ((l.zip ws).drop k) = if rkE cx cy size cols rows zs (imAt l k, ws.getD k (0, 0)) = 0 then rkErr (rkE cx cy size cols rows zs) ((l.zip ws).drop (k + 1)) else rkE cx cy size cols rows zs (imAt l k, ws.getD k (0, 0))) := show ∀ _, _ from fun k hk => rk_drop HLE.out hk
        have HTK : Hid (∀ k, k < l.length → rkSum (rkN cx cy size cols rows zs) ((l.zip ws).take (k + 1)) = rkSum (rkN cx cy size cols rows zs) ((l.zip ws).take k) + rkN cx cy size cols rows zs (imAt l k, ws.getD k (0, 0))) := show ∀ _, _ from fun k hk => rk_take HLE.out hk
        have HRE : Hid (∀ p, rkE cx cy size cols rows zs p = if strangeI p.1 then 7 else mE cx cy size cols rows zs p.1.xl p.1.xh p.1.yl p.1.yh p.2.1 p.2.2) := show ∀ _, _ from fun p => rfl
        have HRN : Hid (∀ p, rkN cx cy size cols rows zs p = mN cx cy size cols rows zs p.1.xl p.1.xh p.1.yl p.1.yh p.2.1 p.2.2 * p.2.1) := show ∀ _, _ from fun p => rfl
        have HRB : Hid (∀ p, rkE cx cy size cols rows zs p = 0 → _) := show ∀ _, _ from fun p hp => rk_bd hp
        have HRO : Hid (∀ p, rkE cx cy size cols rows zs p = 0 → _) := show ∀ _, _ from fun p hp => rk_ok hp
        have HNB : Hid (∀ xl xh yl yh q1 q2, _) := show ∀ _ _ _ _ _ _, _ from fun xl xh yl yh q1 q2 => mN_bd cx cy size cols rows zs xl xh yl yh q1 q2
        generalize riskN cx cy size cols rows zs l ws = RN at *
        generalize riskD cx cy size cols rows zs l ws = RD at *
        generalize riskE cx cy size cols rows zs l ws = RE at *
        clear HBAD HE HZL
        go_enter Tryz.func41, Tryz.ntmps41
        go_wp2_with fail
        obtain ⟨hM, hZ, hz, hB⟩ := alloc2 w #[.int .i64 cx, .int .i64 cy, .int .i64 size, .int .i64 cols, .int .i64 rows, .slice pa zs.length pc] #[.int .i64 0, .int .i64 0] 42 94
        clear hz
        generalize (w.alloc (.cells #[.int .i64 cx, .int .i64 cy, .int .i64 size, .int .i64 cols, .int .i64 rows, .slice pa zs.length pc] 42)).alloc (.cells #[.int .i64 0, .int .i64 0] 94) = W0 at *
        refine (HCK.out _ (HV.out.below hB)).mono ?_
        rintro e w1 ⟨rfl, hb1⟩
        have hM := hM.below hb1
        have hZ := hZ.below hb1
        have hB := below_trans hB hb1
        clear hb1
        obtain ⟨m0, m1, m2, m3, m4, m5⟩ := cells6 hM
        have hszl : w.heap.size < w1.heap.size := hM.lt
        obtain ⟨d1, d2⟩ := mul_bd (1000000 * size) size 100000000000 100000 (by omega) (by omega) (by omega) u6
        have p0 := IntWalk.i64_in (1000000 * size) ⟨by omega, by omega⟩
        have p1 := IntWalk.i64_in (1000000 * size * size) ⟨by omega, by omega⟩
        go_wp2_with fail
        clear m0 m1 m2 m3 m4 m5 p0 p1
        have hR := cellsNew w1 #[.int .i64 0, .int .i64 (1000000 * size * size)] 94
        have hb2 : Below w1.heap.size w1 (w1.alloc (.cells #[.int .i64 0, .int .i64 (1000000 * size * size)] 94)) := balloc (Below.refl _ _) _
        have hrb : w.heap.size + 1 < w1.heap.size := hZ.lt
        have hM := hM.below hb2
        have hZ := hZ.below hb2
        have hB := below_trans hB hb2
        clear hb2 hszl
        generalize w1.alloc (.cells #[.int .i64 0, .int .i64 (1000000 * size * size)] 94) = W2 at *
        generalize w1.heap.size = rb at *
        generalize 1000000 * size * size = den at *
        go_loopw [49] (fun i wr => ∃ (k : Nat) (num : Int), k ≤ l.length ∧ i = .int .i64 k ∧ 0 ≤ num ∧ num ≤ k * 10000000000000000 ∧ Hid (num = rkSum (rkN cx cy size cols rows zs) ((l.zip ws).take k)) ∧ Hid (rkErr (rkE cx cy size cols rows zs) (l.zip ws) = rkErr (rkE cx cy size cols rows zs) ((l.zip ws).drop k)) ∧ Hid (cellsAt wr w.heap.size 42 #[.int .i64 cx, .int .i64 cy, .int .i64 size, .int .i64 cols, .int .i64 rows, .slice pa zs.length pc]) ∧ Hid (cellsAt wr (w.heap.size + 1) 94 #[.int .i64 0, .int .i64 0]) ∧ Hid (cellsAt wr rb 94 #[.int .i64 num, .int .i64 den]) ∧ Below w.heap.size w wr) (fun i _ => l.length - (intOf i).toNat)
        case atStart => exact ⟨0, 0, Nat.zero_le _, rfl, by omega, by omega, by show _ = _; simp [rkSum], by show _ = _; simp, hM, hZ, hR, hB⟩
        case round =>
          clear hM hZ hR hB
          obtain ⟨k, num, hk, rfl, hn0, hn1, HNU, HER, HM3, HZ3, HR3, hB3⟩ := hrel
          by_cases hlt : k < l.length
          · obtain ⟨a', c', hac, h0 | ⟨b, off, rfl, hb, hc⟩⟩ := HL.out.below hB3
            · omega
            simp only [Value.slice.injEq] at hac
            obtain ⟨rfl, _, rfl⟩ := hac
            obtain ⟨j0, j1, j2, j3, j4, j5, j6⟩ := impact_cells hc hlt
            have hltw : k < ws.length := by have := HLE.out; omega
            have HDK := Lib.hid (HDR.out k hlt)
            have HTT := Lib.hid (HTK.out k hlt)
            have hgd : ws.getD k (0, 0) = ws[k] := by simp [hltw]
            have HGD := Lib.hid hgd
            clear hgd hc
            generalize imAt l k = x at *
            obtain ⟨xp, xxl, xxh, xyl, xyh, xtl, xth⟩ := x
            simp only at j0 j1 j2 j3 j4 j5 j6
            have hX := cellsNew wr #[.int .i64 xp, .int .i64 xxl, .int .i64 xxh, .int .i64 xyl, .int .i64 xyh, .int .i64 xtl, .int .i64 xth] 27
            have hb4 : Below wr.heap.size wr (wr.alloc (.cells #[.int .i64 xp, .int .i64 xxl, .int .i64 xxh, .int .i64 xyl, .int .i64 xyh, .int .i64 xtl, .int .i64 xth] 27)) := balloc (Below.refl _ _) _
            have i1 : (0 : Int) ≤ (k : Int) := by omega
            have i2 : (k : Int) < (l.length : Int) := by omega
            have i3 : (k : Int) < (ws.length : Int) := by omega
            go_wp2_with fail
            refine (strange_any _ _ _ _ _ _ _ _).mono ?_
            rintro e w5 ⟨rfl, hb5⟩
            have hX := hX.below hb5
            have hb5 := below_trans hb4 hb5
            have hM5 := HM3.out.below hb5
            have hZ5 := HZ3.out.below hb5
            have hR5 := HR3.out.below hb5
            have hB5 := below_trans hB3 hb5
            clear j0 j1 j2 j3 j4 j5 j6 hb4 hb5 HM3 HZ3 HR3
            cases hs : strangeB xp xxl xxh xyl xyh xtl xth with
            | true =>
              have HS : Hid (rkErr (rkE cx cy size cols rows zs) (l.zip ws) = 7) := show _ = _ from by
                have e7 : rkE cx cy size cols rows zs (⟨xp, xxl, xxh, xyl, xyh, xtl, xth⟩, ws.getD k (0, 0)) = 7 := by rw [HRE.out]; exact if_pos hs
                rw [HER.out, HDK.out, e7]; rfl
              obtain ⟨z0, z1⟩ := cells2 hZ5
              have f0 := hZ5.frozen 0
              have f1 := hZ5.frozen 1
              clear hM5 hR5 hX
              go_wp2_with fail
              refine bodyPost_ret (v := .tuple #[.agg #[.int .i64 0, .int .i64 0], .int .i64 7]) (by simp [results, Tryz.results41, go_sem, z0, z1]) rfl ⟨HERR.out 7 HS.out (by omega), ?_⟩
              exact ((hB5).setCell (by show w.heap.size ≤ w.heap.size + 1; omega) _).setCell (by show w.heap.size ≤ w.heap.size + 1; omega) _
            | false =>
              have HSS := Lib.hid hs
              obtain ⟨a4, c4, hac, h0 | ⟨b4, off4, rfl, hb4, hc4⟩⟩ := HW.out.below hB5
              · omega
              simp only [Value.slice.injEq] at hac
              obtain ⟨rfl, _, rfl⟩ := hac
              have q0 := hc4 (k * 2) (by omega)
              have q1 := hc4 (k * 2 + 1) (by omega)
              rw [spanF_even ws k hltw] at q0
              rw [spanF_odd ws k hltw, ← Nat.add_assoc] at q1
              have HQE : Hid (rkE cx cy size cols rows zs (⟨xp, xxl, xxh, xyl, xyh, xtl, xth⟩, ws.getD k (0, 0)) = mE cx cy size cols rows zs xxl xxh xyl xyh ws[k].1 ws[k].2) := show _ = _ from by rw [HGD.out, HRE.out]; exact if_neg (fun h => by have h2 : strangeB xp xxl xxh xyl xyh xtl xth = true := h; rw [hs] at h2; cases h2)
              have HQN : Hid (rkN cx cy size cols rows zs (⟨xp, xxl, xxh, xyl, xyh, xtl, xth⟩, ws.getD k (0, 0)) = mN cx cy size cols rows zs xxl xxh xyl xyh ws[k].1 ws[k].2 * ws[k].1) := show _ = _ from by rw [HGD.out, HRN.out]
              have HCA := Lib.hid (fun W (hW : IntsAt W (.slice pa zs.length pc) zs) => HMN.out W xxl xxh xyl xyh ws[k].1 ws[k].2 hW)
              have HOB := Lib.hid (HRO.out (⟨xp, xxl, xxh, xyl, xyh, xtl, xth⟩, ws.getD k (0, 0)))
              have HBB := Lib.hid (HRB.out (⟨xp, xxl, xxh, xyl, xyh, xtl, xth⟩, ws.getD k (0, 0)))
              have HNBB := Lib.hid (HNB.out xxl xxh xyl xyh ws[k].1 ws[k].2)
              rw [HGD.out] at HOB
              generalize mE cx cy size cols rows zs xxl xxh xyl xyh ws[k].1 ws[k].2 = ke at *
              generalize mN cx cy size cols rows zs xxl xxh xyl xyh ws[k].1 ws[k].2 = kn at *
              generalize hq1v : ws[k].1 = q1v at *
              have HQ1 := Lib.hid hq1v
              clear hq1v
              generalize ws[k].2 = q2v at *
              obtain ⟨m0, m1, m2, m3, m4, m5⟩ := cells6 hM5
              obtain ⟨x0, x1, x2, x3, x4, x5, x6⟩ := cells7 hX
              have HM5 := Lib.hid hM5
              have HZ5 := Lib.hid hZ5
              have HR5 := Lib.hid hR5
              have HB5 := Lib.hid hB5
              clear hc4 hs hM5 hZ5 hR5 hX hB3
              go_upto_region 14 with fail
              go_cut [15, 16] (fun n15 e16 wx => n15 = .int .i64 kn ∧ e16 = .int .i64 ke ∧ cellsAt wx w.heap.size 42 #[.int .i64 cx, .int .i64 cy, .int .i64 size, .int .i64 cols, .int .i64 rows, .slice pa zs.length pc] ∧ cellsAt wx (w.heap.size + 1) 94 #[.int .i64 0, .int .i64 0] ∧ cellsAt wx rb 94 #[.int .i64 num, .int .i64 den] ∧ Below w.heap.size w wx)
              case first =>
                have hsw : w.heap.size < w5.heap.size := HM5.out.lt
                have hxs : wr.heap.size < w5.heap.size := World.block_lt_of_cell? _ _ x1
                have hqs : b4 < w5.heap.size := World.block_lt_of_cell? _ _ q0
                have ne1 : w.heap.size ≠ w5.heap.size := by omega
                have ne2 : wr.heap.size ≠ w5.heap.size := by omega
                have ne3 : b4 ≠ w5.heap.size := by omega
                have ne4 : w.heap.size + 1 ≠ w5.heap.size := by have := HZ5.out.lt; omega
                have ne5 : rb ≠ w5.heap.size := by have := HR5.out.lt; omega
                have ne6 : w.heap.size ≤ w5.heap.size := by omega
                have hBd : Below w.heap.size w w5.drew := HB5.out.drew
                have hMd : cellsAt w5.drew w.heap.size 42 #[.int .i64 cx, .int .i64 cy, .int .i64 size, .int .i64 cols, .int .i64 rows, .slice pa zs.length pc] := HM5.out
                have hZd : cellsAt w5.drew (w.heap.size + 1) 94 #[.int .i64 0, .int .i64 0] := HZ5.out
                have hRd : cellsAt w5.drew rb 94 #[.int .i64 num, .int .i64 den] := HR5.out
                clear HM5 HZ5 HR5 HB5
                go_region_held3 (fun w' => w'.cell? ⟨w.heap.size, 0, none⟩ = some (.int .i64 cx) ∧ w'.cell? ⟨w.heap.size, 1, none⟩ = some (.int .i64 cy) ∧ w'.cell? ⟨w.heap.size, 2, none⟩ = some (.int .i64 size) ∧ w'.cell? ⟨w.heap.size, 3, none⟩ = some (.int .i64 cols) ∧ w'.cell? ⟨w.heap.size, 4, none⟩ = some (.int .i64 rows) ∧ w'.cell? ⟨w.heap.size, 5, none⟩ = some (.slice pa zs.length pc) ∧ w'.cell? ⟨wr.heap.size, 1, none⟩ = some (.int .i64 xxl) ∧ w'.cell? ⟨wr.heap.size, 2, none⟩ = some (.int .i64 xxh) ∧ w'.cell? ⟨wr.heap.size, 3, none⟩ = some (.int .i64 xyl) ∧ w'.cell? ⟨wr.heap.size, 4, none⟩ = some (.int .i64 xyh) ∧ w'.cell? ⟨b4, off4 + k * 2, none⟩ = some (.int .i64 q1v) ∧ w'.cell? ⟨b4, off4 + k * 2 + 1, none⟩ = some (.int .i64 q2v)) (first | (with_reducible exact ⟨m0, m1, m2, m3, m4, m5, x1, x2, x3, x4, q0, q1⟩) | (with_reducible exact ⟨alloc_cell m0 _, alloc_cell m1 _, alloc_cell m2 _, alloc_cell m3 _, alloc_cell m4 _, alloc_cell m5 _, alloc_cell x1 _, alloc_cell x2 _, alloc_cell x3 _, alloc_cell x4 _, alloc_cell q0 _, alloc_cell q1 _⟩) | (with_reducible exact ⟨set3_cell m0 ne1, set3_cell m1 ne1, set3_cell m2 ne1, set3_cell m3 ne1, set3_cell m4 ne1, set3_cell m5 ne1, set3_cell x1 ne2, set3_cell x2 ne2, set3_cell x3 ne2, set3_cell x4 ne2, set3_cell q0 ne3, set3_cell q1 ne3⟩) | go_keep) ((go_at_call 25; refine (HCA.out _ (HV.out.below (by first | exact hBd | exact balloc hBd _))).mono ?_; rintro e w7 ⟨va, vm, vc, o1, o2, rfl, hbA⟩; have m0 := below_cell hbA (by first | exact m0 | exact alloc_cell m0 _); have m1 := below_cell hbA (by first | exact m1 | exact alloc_cell m1 _); have m2 := below_cell hbA (by first | exact m2 | exact alloc_cell m2 _); have m3 := below_cell hbA (by first | exact m3 | exact alloc_cell m3 _); have m4 := below_cell hbA (by first | exact m4 | exact alloc_cell m4 _); have m5 := below_cell hbA (by first | exact m5 | exact alloc_cell m5 _); have x1 := below_cell hbA (by first | exact x1 | exact alloc_cell x1 _); have x2 := below_cell hbA (by first | exact x2 | exact alloc_cell x2 _); have x3 := below_cell hbA (by first | exact x3 | exact alloc_cell x3 _); have x4 := below_cell hbA (by first | exact x4 | exact alloc_cell x4 _); have q0 := below_cell hbA (by first | exact q0 | exact alloc_cell q0 _); have q1 := below_cell hbA (by first | exact q1 | exact alloc_cell q1 _); (try have hP : cellsAt w7 w5.heap.size 47 #[.slice none 0 0, .int .i64 0, .int .i64 0] := (cellsNew w5.drew #[.slice none 0 0, .int .i64 0, .int .i64 0] 47).below hbA; (obtain ⟨g0, g1, g2⟩ := cells3 hP); (have ff0 := hP.frozen 0); (have ff1 := hP.frozen 1); (have ff2 := hP.frozen 2)); have hbA := below_trans (by first | exact Below.refl w5.drew.heap.size w5.drew | exact balloc (Below.refl w5.drew.heap.size w5.drew) _) hbA; have hMd := hMd.below hbA; have hZd := hZd.below hbA; have hRd := hRd.below hbA; have hBd := below_trans hBd hbA))
                all_goals
                  go_wp2_with fail
                  go_meet
                  first
                    | (with_reducible exact ⟨rfl, rfl, hMd.below (balloc (Below.refl _ _) _), hZd.below (balloc (Below.refl _ _) _), hRd.below (balloc (Below.refl _ _) _), balloc hBd _⟩)
                    | exact ⟨rfl, rfl, hMd.grown (set3_grown _ _ _ _ _) ne1, hZd.grown (set3_grown _ _ _ _ _) ne4, hRd.grown (set3_grown _ _ _ _ _) ne5, hBd.grown (set3_grown _ _ _ _ _) hBd.size (fun j e => by cases e; exact ne6)⟩
              case rest =>
                obtain ⟨rfl, rfl, hM6, hZ6, hR6, hB6⟩ := hcut
                obtain ⟨r0, r1⟩ := cells2 hR6
                have fr0 := hR6.frozen 0
                by_cases hke : ke = 0
                · subst hke
                  have hob := HOB.out (by rw [← HGD.out]; exact HQE.out)
                  have hbb := HBB.out HQE.out
                  rw [HQN.out] at hbb
                  have hlo : 0 ≤ q1v ∧ q1v ≤ 10000 := hob.2.2
                  have HS : Hid (rkErr (rkE cx cy size cols rows zs) (l.zip ws) = rkErr (rkE cx cy size cols rows zs) ((l.zip ws).drop (k + 1))) := show _ = _ from by rw [HER.out, HDK.out, HQE.out, if_pos rfl]
                  have HT2 : Hid (num + kn * q1v = rkSum (rkN cx cy size cols rows zs) ((l.zip ws).take (k + 1))) := show _ = _ from by rw [HTT.out, HQN.out, HNU.out]
                  have hq0 : wc.cell? ⟨b4, off4 + k * 2, none⟩ = some (.int .i64 q1v) := by
                    have hq := HW.out.below hB6
                    obtain ⟨a4', c4', hac, h0 | ⟨b4', off4', hbe, hb4', hc4'⟩⟩ := hq
                    · omega
                    simp only [Value.slice.injEq] at hac
                    obtain ⟨hac1, _, hac2⟩ := hac
                    rw [hbe] at hac1
                    simp only [Option.some.injEq, Addr.mk.injEq] at hac1
                    obtain ⟨rfl, rfl, _⟩ := hac1
                    have h := hc4' (k * 2) (by omega)
                    rw [spanF_even ws k hltw] at h
                    rw [h, HQ1.out]
                  obtain ⟨kb0, kb1⟩ := HNBB.out
                  have o1 := IntWalk.i64_in (kn * q1v) ⟨by omega, by omega⟩
                  have o2 := IntWalk.i64_in (num + kn * q1v) ⟨by omega, by omega⟩
                  have HNB2 := Lib.hid (show 0 ≤ num + kn * q1v ∧ num + kn * q1v ≤ (k : Int) * 10000000000000000 + 10000000000000000 by omega)
                  have HM6 := Lib.hid hM6
                  have HZ6 := Lib.hid hZ6
                  have HR6 := Lib.hid hR6
                  have HB6 := Lib.hid hB6
                  have HRBW : Hid (w.heap.size + 1 < rb) := show _ < _ from hrb
                  clear hob hbb hM6 hZ6 hR6 hB6
                  go_wp2_with fail
                  go_region
                  clear o1 o2 hq0
                  have hR7 := (HR6.out.set 0 (.int .i64 (num + kn * q1v))).drew
                  simp only [List.setIfInBounds_toArray, List.set_cons_zero, List.set_cons_succ] at hR7
                  have hM7 := (HM6.out.set_other (p := ⟨rb, 0, none⟩) (by show rb ≠ _; have := HRBW.out; omega) (.int .i64 (num + kn * q1v))).drew
                  have hZ7 := (HZ6.out.set_other (p := ⟨rb, 0, none⟩) (by show rb ≠ _; have := HRBW.out; omega) (.int .i64 (num + kn * q1v))).drew
                  have hB7 := (HB6.out.setCell (p := ⟨rb, 0, none⟩) (by show w.heap.size ≤ rb; have := HRBW.out; omega) (.int .i64 (num + kn * q1v))).drew
                  have HM7 := Lib.hid hM7
                  have HZ7 := Lib.hid hZ7
                  have HR7 := Lib.hid hR7
                  clear hM7 hZ7 hR7 r0 r1 fr0
                  go_wp2_with fail
                  go_roundw
                  case rel => exact ⟨k + 1, num + kn * q1v, by omega, by go_num, HNB2.out.1, (by have := HNB2.out.2; push_cast; omega), HT2.out, HS.out, HM7.out, HZ7.out, HR7.out, hB7⟩
                  case measure => simp [intOf]; omega
                · have HS : Hid (rkErr (rkE cx cy size cols rows zs) (l.zip ws) = ke) := show _ = _ from by rw [HER.out, HDK.out, HQE.out, if_neg hke]
                  have hke' : (ke != 0) = true := by simpa using hke
                  have HN := Lib.hid hke
                  obtain ⟨z0, z1⟩ := cells2 hZ6
                  have f0 := hZ6.frozen 0
                  have f1 := hZ6.frozen 1
                  clear hke hM6 hR6 r0 r1 fr0
                  go_wp2_with fail
                  refine bodyPost_ret (v := .tuple #[.agg #[.int .i64 0, .int .i64 0], .int .i64 ke]) (by simp [results, Tryz.results41, go_sem, z0, z1]) rfl ⟨HERR.out ke HS.out HN.out, ?_⟩
                  exact ((hB6).setCell (by show w.heap.size ≤ w.heap.size + 1; omega) _).setCell (by show w.heap.size ≤ w.heap.size + 1; omega) _
          · obtain rfl : k = l.length := by omega
            have hzl : (l.zip ws).length = l.length := by have := HLE.out; rw [List.length_zip]; omega
            have HE0 : Hid (rkErr (rkE cx cy size cols rows zs) (l.zip ws) = 0) := show _ = _ from by rw [HER.out, List.drop_of_length_le (by omega)]; rfl
            have HN0 : Hid (num = rkSum (rkN cx cy size cols rows zs) (l.zip ws)) := show _ = _ from by rw [HNU.out, List.take_of_length_le (by omega)]
            have hOK2 := HOK.out HE0.out
            rw [← HN0.out] at hOK2
            have HOK2 := Lib.hid hOK2
            obtain ⟨r0, r1⟩ := cells2 HR3.out
            obtain ⟨z0, z1⟩ := cells2 HZ3.out
            have f0 := HZ3.out.frozen 0
            have f1 := HZ3.out.frozen 1
            clear hzl hOK2 HN0 HER HNU
            go_wp2_with fail
            refine bodyPost_ret (v := .tuple #[.agg #[.int .i64 num, .int .i64 den], .int .i64 0]) (by simp [results, Tryz.results41, go_sem, z0, z1]) rfl ⟨HOK2.out _ rfl, ?_⟩
            exact ((hB3).setCell (by show w.heap.size ≤ w.heap.size + 1; omega) _).setCell (by show w.heap.size ≤ w.heap.size + 1; omega) _
      · have HE : Hid (riskE cx cy size cols rows zs l ws = 2) := show _ = _ from by unfold riskE; rw [if_neg (by omega), if_neg h12, if_pos hle]
        have hle2 : ((l.length : Int) != (ws.length : Int)) = true := bne_iff_ne.2 (by omega)
        have h12' : ¬ (12 : Int) < (l.length : Int) := by omega
        clear hck hle h12
        go_enter Tryz.func41, Tryz.ntmps41
        go_wp2_with fail
        obtain ⟨hM, hZ, hz, hB⟩ := alloc2 w #[.int .i64 cx, .int .i64 cy, .int .i64 size, .int .i64 cols, .int .i64 rows, .slice pa zs.length pc] #[.int .i64 0, .int .i64 0] 42 94
        clear hz
        generalize (w.alloc (.cells #[.int .i64 cx, .int .i64 cy, .int .i64 size, .int .i64 cols, .int .i64 rows, .slice pa zs.length pc] 42)).alloc (.cells #[.int .i64 0, .int .i64 0] 94) = W0 at *
        refine (HCK.out _ (HV.out.below hB)).mono ?_
        rintro e w1 ⟨rfl, hb1⟩
        have hM := hM.below hb1
        have hZ := hZ.below hb1
        have hB := below_trans hB hb1
        clear hb1
        obtain ⟨z0, z1⟩ := cells2 hZ
        have f0 := hZ.frozen 0
        have f1 := hZ.frozen 1
        go_wp2_with fail
        refine bodyPost_ret (v := .tuple #[.agg #[.int .i64 0, .int .i64 0], .int .i64 2]) (by simp [results, Tryz.results41, go_sem, z0, z1]) rfl ⟨HBAD.out 2 HE.out (by omega), ?_⟩
        exact ((hB).setCell (by show w.heap.size ≤ w.heap.size + 1; omega) _).setCell (by show w.heap.size ≤ w.heap.size + 1; omega) _
  · have HE : Hid (riskE cx cy size cols rows zs l ws = chkE cx cy size cols rows zs) := show _ = _ from by unfold riskE; rw [if_pos hck]
    have hck' : (chkE cx cy size cols rows zs != 0) = true := by simpa using hck
    have HN := Lib.hid hck
    clear hck
    generalize chkPart cx cy size cols rows zs = A0 at *
    generalize chkAt cx cy size cols rows zs = A1 at *
    generalize chkE cx cy size cols rows zs = K at *
    go_enter Tryz.func41, Tryz.ntmps41
    go_wp2_with fail
    obtain ⟨hM, hZ, hz, hB⟩ := alloc2 w #[.int .i64 cx, .int .i64 cy, .int .i64 size, .int .i64 cols, .int .i64 rows, .slice pa zs.length pc] #[.int .i64 0, .int .i64 0] 42 94
    clear hz
    generalize (w.alloc (.cells #[.int .i64 cx, .int .i64 cy, .int .i64 size, .int .i64 cols, .int .i64 rows, .slice pa zs.length pc] 42)).alloc (.cells #[.int .i64 0, .int .i64 0] 94) = W0 at *
    refine (HCK.out _ (HV.out.below hB)).mono ?_
    rintro e w1 ⟨rfl, hb1⟩
    have hM := hM.below hb1
    have hZ := hZ.below hb1
    have hB := below_trans hB hb1
    clear hb1
    obtain ⟨z0, z1⟩ := cells2 hZ
    have f0 := hZ.frozen 0
    have f1 := hZ.frozen 1
    go_wp2_with fail
    refine bodyPost_ret (v := .tuple #[.agg #[.int .i64 0, .int .i64 0], .int .i64 K]) (by simp [results, Tryz.results41, go_sem, z0, z1]) rfl ⟨HBAD.out K HE.out HN.out, ?_⟩
    exact ((hB).setCell (by show w.heap.size ≤ w.heap.size + 1; omega) _).setCell (by show w.heap.size ≤ w.heap.size + 1; omega) _
end Go.Proofs.YtmglbegbijofkaaGreatDoor
