import Derived.Test.YtmglbegbijofkaaGreatDoorWM
import Derived.Test.YtmglbegbijofkaaGreatDoorKT
import Derived.Test.YtmglbegbijofkaaGreatDoorW22
import Derived.WalkLawsBesides
import Derived.Deep.CutBlock
set_option linter.unusedVariables false
set_option linter.unusedSimpArgs false
namespace Go.Proofs.YtmglbegbijofkaaGreatDoor
open Go.RowKit Go.Shelf Go.Sort
theorem clE_ok {cx cy size cols rows : Int} {zs : List Int} {xl xh yl yh lethal cap : Int} (k : AskOK cx cy size cols rows zs xl xh yl yh lethal cap) : clE cx cy size cols rows zs xl xh yl yh = 0 ∧ clL cx cy size cols rows zs xl xh yl yh = cellsL cx cy size cols rows xl xh yl yh ∧ clM cx cy size cols rows zs xl xh yl yh = cellsM cx cy size cols rows xl xh yl yh := by
  have he : clE cx cy size cols rows zs xl xh yl yh = 0 := by unfold clE; rw [k.chk, k.wild]; simp
  refine ⟨he, ?_, ?_⟩
  · unfold clL; rw [if_pos he]; rfl
  · unfold clM; rw [if_pos he]; rfl
/-- the law's three bounds -/
theorem bound_end {zs : List Int} {cap : Int} {L pl : List Int} {left n : Int} (hc : CellsOK zs L) (h1 : 1 ≤ cap) (hp : PI cap L.length pl left) (hn : n = ppl zs (gv zs cap (ordS zs L)).1) {p : Int} (h0 : 0 ≤ p) : ppl zs (L.zip pl) ≤ n ∧ ppl zs (L.zip pl) ≤ bnd zs cap L p ∧ n ≤ bnd zs cap L p := by
  have hnd : L.Nodup := hc.asc.imp (fun h => by omega)
  have hf := hp.feas (by omega) hnd
  refine ⟨by rw [hn]; exact gv_most hc.z h1 hc.desc hc.perm hf, feas_le hf h0, ?_⟩
  have := feas_le (zs := zs) (gv_feas h1 _ hc.desc hc.nodup) h0
  rw [hn]
  unfold bnd at *
  rw [← sumF_perm hc.perm]
  exact this
/-- where there is no outside, nothing is left -/
theorem left_none {zs : List Int} {cap : Int} {L pl : List Int} {left : Int} {more : Bool} (hc : CellsOK zs L) (h1 : 1 ≤ cap) (hp : PI cap L.length pl left) (h : ¬ (0 < (gv zs cap (ordS zs L)).2.1 ∧ more = false)) (hm : more = false) (hf : 0 < left → ∀ j, j < L.length → pl.getD j 0 = cap) : left = 0 := by
  by_cases hl : 0 < left
  · exfalso
    have hs := full_sum pl (fun j hj => hf hl j (by rw [← hp.len]; exact hj))
    have hlen := hp.len
    have hsum := hp.sum
    refine h ⟨?_, hm⟩
    rw [gv_left h1 _ hc.desc, hc.perm.length_eq, ← hlen]
    omega
  · have := hp.l0; omega
set_option maxRecDepth 100000 in
set_option maxHeartbeats 4000000 in
theorem law6 (cx cy size cols rows : Int) (pv : Value) (zs : List Int) (xl xh yl yh lethal cap : Int) (sv : Value) (out price : Int) (wv : Value) (ws : List Int) (w : World) (hv : IntsAt w pv zs) (hn : zs.length ≤ 9223372036854775806) (hw : WordsAt w wv ws) (hwb : ∀ j : Nat, 0 ≤ ws[j]?.getD 0 ∧ ws[j]?.getD 0 ≤ 65535) (hwl : ws.length ≤ 9223372036854775806) (ht : Tab10 w) :
    Calls Tryz.prog 6 #[.agg #[.int .i64 cx, .int .i64 cy, .int .i64 size, .int .i64 cols, .int .i64 rows, pv], .agg #[.int .i64 xl, .int .i64 xh, .int .i64 yl, .int .i64 yh, .int .i64 lethal, .int .i64 cap, sv, .int .i64 out, .int .i64 price], wv] w fun e w' => e = .returned (.bool true) ∧ Below w.heap.size w w' := by
  obtain ⟨a, c, rfl, hx⟩ := id hv
  clear hx
  obtain ⟨wa, wc, rfl, hx⟩ := id hw
  clear hx
  have HV := Lib.hid hv
  have HT := Lib.hid ht
  have HW := Lib.hid hw
  have HWB := Lib.hid hwb
  clear hv ht hw hwb
  have HM1 := Lib.hid (fun W (h : IntsAt W (.slice a zs.length c) zs) => most_num cx cy size cols rows _ zs xl xh yl yh lethal cap W h hn)
  have HCL := Lib.hid (fun W (h : IntsAt W (.slice a zs.length c) zs) => Cells_any cx cy size cols rows _ zs xl xh yl yh W h hn)
  unfold MostNum at HM1
  unfold ClPost at HCL
  by_cases h0 : mE cx cy size cols rows zs xl xh yl yh lethal cap = 0
  · have k := mE_ok h0
    obtain ⟨v9, v10⟩ := outB_false.1 k.capb
    obtain ⟨q1, q2, q3⟩ := clE_ok k
    rw [q1, q2, q3] at HCL
    rw [h0] at HM1
    have hck := k.cells
    have hm0 : mostE zs 0 cap (cellsL cx cy size cols rows xl xh yl yh) (cellsM cx cy size cols rows xl xh yl yh) = 0 := by have := h0; unfold mE at this; rw [k.ask] at this; exact this
    have hno := (mostE_zero.1 hm0).2
    have hmn : mN cx cy size cols rows zs xl xh yl yh lethal cap = ppl zs (gv zs cap (ordS zs (cellsL cx cy size cols rows xl xh yl yh))).1 := by unfold mN; rw [k.ask]; exact if_pos hm0
    have hnb := mN_bd cx cy size cols rows zs xl xh yl yh lethal cap
    have HK := Lib.hid hck
    have HNO := Lib.hid hno
    have HMN := Lib.hid hmn
    clear h0 k q1 q2 q3 hm0 hno hmn
    have hL4 := hck.len
    have hn4 := hck.n4
    clear hck
    generalize mN cx cy size cols rows zs xl xh yl yh lethal cap = N at *
    generalize cellsL cx cy size cols rows xl xh yl yh = L at *
    generalize cellsM cx cy size cols rows xl xh yl yh = more at *
    have hc1 : ¬ cap < 1 := by omega
    have hc2 : decide (1000000 < cap) = false := by simp; omega
    obtain ⟨i0, hi, hz0, hz1, hz2⟩ := info_parts Tryz.info3
    go_enter Tryz.func6, Tryz.ntmps6
    go_wp2_with fail
    obtain ⟨hM, hX, hz, hB⟩ := alloc2 w #[.int .i64 cx, .int .i64 cy, .int .i64 size, .int .i64 cols, .int .i64 rows, .slice a zs.length c] #[.int .i64 xl, .int .i64 xh, .int .i64 yl, .int .i64 yh, .int .i64 lethal, .int .i64 cap, sv, .int .i64 out, .int .i64 price] 42 49
    clear hz
    generalize (w.alloc (.cells #[.int .i64 cx, .int .i64 cy, .int .i64 size, .int .i64 cols, .int .i64 rows, .slice a zs.length c] 42)).alloc (.cells #[.int .i64 xl, .int .i64 xh, .int .i64 yl, .int .i64 yh, .int .i64 lethal, .int .i64 cap, sv, .int .i64 out, .int .i64 price] 49) = W0 at *
    refine (HM1.out _ (HV.out.below hB)).mono ?_
    rintro e w1 ⟨va, vm, vc, o1, o2, rfl, hb1⟩
    have hb1 := balloc hb1 (.cells #[.slice va vm vc, .int .i64 o1, .int .i64 o2] 47)
    have hM := hM.below hb1
    have hX := hX.below hb1
    have hB := below_trans hB hb1
    obtain ⟨m0, m1, m2, m3, m4, m5⟩ := cells6 hM
    obtain ⟨x0, x1, x2, x3, x4, x5, x6, x7, x8⟩ := cells9 hX
    clear hb1
    go_wp2_with fail
    refine (HCL.out _ (HV.out.below hB)).mono ?_
    rintro e w2 ⟨lv, rfl, hown, hb2⟩
    clear m0 m1 m2 m3 m4 m5 x0 x1 x2 x3 x4 x5 x6 x7 x8
    have hM := hM.below hb2
    have hX := hX.below hb2
    have hB := below_trans hB hb2
    obtain ⟨x0, x1, x2, x3, x4, x5, x6, x7, x8⟩ := cells9 hX
    have HI := Lib.hid (ints_at_row hown)
    obtain ⟨la, lc, rfl, hx⟩ := id (ints_at_row hown)
    clear hx hown hb2
    have HM := Lib.hid hM
    have HX := Lib.hid hX
    clear hM hX
    go_wp2_with (refine wpList_make_full _ (by rfl) _ _ 40 (by rfl) w2.heap.size 3 i0 (.int .i64 0) 1 Tryz.underlying40 hi hz0 hz1 .i64 .i64 _ _ L.length (by rfl) (by rfl) (by rfl) (by rfl) (by rw [hz2]; omega) (by unfold maxLen; omega) (by omega) ?_)
    intro w4 hown4 hgr4
    have hb4 : Below w2.heap.size w2 w4 := (Below.refl _ _).grown hgr4 (Nat.le_refl _) (fun k e => by cases e)
    have hpl : (madeCells #[Value.int .i64 0] L.length).toList = (List.replicate L.length (0 : Int)).map (Value.int .i64) := by rw [toList_madeCells_one]; simp
    rw [hpl] at hown4
    have HOW4 := Lib.hid hown4
    clear hown4 hgr4 hpl x0 x1 x2 x3 x4 x5 x6 x7 x8
    as_aux_lemma =>
      go_upto_block 0 with fail
      go_cut [14] (fun lf wx => ∃ (pl : List Int) (left : Int), lf = .int .i64 left ∧ Hid (PI cap L.length pl left) ∧ Hid (wx.ownsRow w2.heap.size 3 1 (.slice (some ⟨w2.heap.size, 0, none⟩) L.length L.length) L.length (pl.map (Value.int .i64))) ∧ Below w2.heap.size w2 wx)
      case first =>
        go_wp2_with fail
        go_loopw [14, 15] (fun lf i wx => ∃ (k : Nat) (pl : List Int) (left : Int), k ≤ L.length ∧ i = .int .i64 k ∧ lf = .int .i64 left ∧ Hid (PI cap L.length pl left) ∧ Hid (∀ j, k ≤ j → pl.getD j 0 = 0) ∧ Hid (wx.ownsRow w2.heap.size 3 1 (.slice (some ⟨w2.heap.size, 0, none⟩) L.length L.length) L.length (pl.map (Value.int .i64))) ∧ Below w2.heap.size w2 wx) (fun _ i _ => L.length - (intOf i).toNat)
        case atStart => exact ⟨0, List.replicate L.length 0, 1000000, Nat.zero_le _, rfl, rfl, PI.start (by omega) L.length, show ∀ _ _, _ from fun j _ => by rw [List.getD_eq_getElem?_getD, List.getElem?_replicate]; split <;> rfl, HOW4.out, hb4⟩
        case round =>
          clear HOW4 hb4
          obtain ⟨k, pl, left, hk, rfl, rfl, HPI, HZ0, HOW, hBr⟩ := hrel
          have hBw := below_trans hB hBr
          by_cases hlt : k < L.length
          · by_cases hlw : k < ws.length
            · as_aux_lemma =>
                obtain ⟨a', c', hac, h0 | ⟨b, off, rfl, hb, hc⟩⟩ := HW.out.below hBw
                · omega
                simp only [Value.slice.injEq] at hac
                obtain ⟨rfl, _, rfl⟩ := hac
                have e1 := hc k (by omega)
                unfold u16F at e1
                have hwb := HWB.out k
                generalize ws[k]?.getD 0 = wv at *
                obtain ⟨x0, x1, x2, x3, x4, x5, x6, x7, x8⟩ := cells9 (HX.out.below hBr)
                have hplk : pl.getD k 0 = 0 := HZ0.out k (Nat.le_refl _)
                have hlen := HPI.out.len
                have hgc : wr.cell? ⟨w2.heap.size, k, none⟩ = some (.int .i64 0) := by
                  rw [HOW.out.cellAt k (by omega), List.getElem?_map, List.getElem?_eq_getElem (by omega)]
                  rw [List.getD_eq_getElem?_getD, List.getElem?_eq_getElem (by omega)] at hplk
                  simpa using hplk
                have hgf := HOW.out.frozenAt k
                have hl0 := HPI.out.l0
                have hl1 := HPI.out.le
                have i1 : (0 : Int) ≤ (k : Int) := by omega
                have i2 : (k : Int) < (L.length : Int) := by omega
                have i3 : (k : Int) < (ws.length : Int) := by omega
                obtain ⟨hw0, hw1⟩ := hwb
                have o1 := IntWalk.i64_in (wv * 20) ⟨by omega, by omega⟩
                clear hc hplk hlen
                go_wp2_with fail
                go_region
                have hmb : 0 ≤ (if wv * 20 < (if cap < left then cap else left) then wv * 20 else (if cap < left then cap else left)) ∧ (if wv * 20 < (if cap < left then cap else left) then wv * 20 else (if cap < left then cap else left)) ≤ cap ∧ (if wv * 20 < (if cap < left then cap else left) then wv * 20 else (if cap < left then cap else left)) ≤ left := by
                  by_cases q1 : cap < left
                  · rw [if_pos q1]; split <;> omega
                  · rw [if_neg q1]; split <;> omega
                generalize (if wv * 20 < (if cap < left then cap else left) then wv * 20 else (if cap < left then cap else left)) = mv at *
                have hown5 := (HOW.out.stored k (.int .i64 mv)).1.drew
                rw [← List.map_set] at hown5
                have hB5 : Below w2.heap.size w2 (wr.setCell ⟨w2.heap.size, k, none⟩ (.int .i64 mv)).drew := (hBr.setCell (p := ⟨w2.heap.size, k, none⟩) (Nat.le_refl _) (.int .i64 mv)).drew
                have HPK : Hid (pl.getD k 0 = 0) := show _ = _ from HZ0.out k (Nat.le_refl _)
                have HPI5 := Lib.hid (HPI.out.put hlt (v := mv) hmb.1 hmb.2.1 (by rw [HPK.out]; omega))
                have HLN : Hid (pl.length = L.length) := show _ = _ from HPI.out.len
                obtain ⟨mb0, mb1, mb2⟩ := hmb
                generalize (wr.setCell ⟨w2.heap.size, k, none⟩ (.int .i64 mv)).drew = W5 at *
                have hgc5 : W5.cell? ⟨w2.heap.size, k, none⟩ = some (.int .i64 mv) := by
                  rw [hown5.cellAt k (by omega), List.getElem?_map, List.getElem?_set]
                  simp [HLN.out, hlt]
                have HOW5 := Lib.hid hown5
                clear hgc hgf x0 x1 x2 x3 x4 x5 x6 x7 x8 e1 o1 hown5
                go_wp2_with fail
                go_roundw
                case rel => exact ⟨k + 1, pl.set k mv, left - mv, by omega, by go_num, rfl, by show PI _ _ _ _; have := HPI5.out; rw [HPK.out] at this; simpa using this, show ∀ _ _, _ from fun j hj => by rw [getD_set pl k j mv (by rw [HLN.out]; exact hlt), if_neg (by omega)]; exact HZ0.out j (by omega), HOW5.out, hB5⟩
                case measure => simp [intOf]; omega
            · obtain ⟨a', c', hac, hx⟩ := HW.out.below hBw
              clear hac hx
              go_wp2_with fail
              go_meet
              exact ⟨pl, left, rfl, HPI, HOW, hBr⟩
          · go_wp2_with fail
            go_meet
            exact ⟨pl, left, rfl, HPI, HOW, hBr⟩
      case rest =>
        obtain ⟨pl, left, rfl, HPI, HOW, hBr⟩ := hcut
        clear HOW4 hb4
        as_aux_lemma =>
          go_upto_block 2 with fail
          obtain ⟨wo, rfl⟩ : ∃ wo : World, wo = wc := ⟨_, rfl⟩
          go_cut [14] (fun lf wx => ∃ (pl : List Int) (left : Int), lf = .int .i64 left ∧ Hid (PI cap L.length pl left) ∧ Hid (more = false → 0 < left → ∀ j, j < L.length → pl.getD j 0 = cap) ∧ Hid (wx.ownsRow w2.heap.size 3 1 (.slice (some ⟨w2.heap.size, 0, none⟩) L.length L.length) L.length (pl.map (Value.int .i64))) ∧ Below w2.heap.size w2 wx)
          case first =>
            go_wp2_with fail
            go_loopw [14, 16] (fun lf i wx => ∃ (k : Nat) (jz : Int) (pl : List Int) (left : Int), k ≤ L.length ∧ i = .int .i64 jz ∧ (k : Int) - 1 ≤ jz ∧ jz ≤ (k : Int) - 1 ∧ lf = .int .i64 left ∧ Hid (PI cap L.length pl left) ∧ Hid (0 < left → ∀ j, k ≤ j → j < L.length → pl.getD j 0 = cap) ∧ Hid (wx.ownsRow w2.heap.size 3 1 (.slice (some ⟨w2.heap.size, 0, none⟩) L.length L.length) L.length (pl.map (Value.int .i64))) ∧ Below w2.heap.size w2 wx) (fun _ i _ => (intOf i + 1).toNat)
            case atStart => exact ⟨L.length, (L.length : Int) - 1, pl, left, Nat.le_refl _, rfl, by omega, by omega, rfl, HPI, show _ → ∀ _, _ from fun _ j h1 h2 => absurd h2 (by omega), HOW, hBr⟩
            case round =>
              clear HPI HOW hBr
              obtain ⟨k, jz, pl, left, hk, rfl, hj0, hj1, rfl, HPI, HF, HOW, hBr⟩ := hrel
              by_cases hk0 : k = 0
              · obtain rfl : jz = -1 := by omega
                go_wp2_with fail
                go_meet
                exact ⟨pl, left, rfl, HPI, show _ → _ → ∀ _, _ from fun _ hl j hj => HF.out hl j (by omega) hj, HOW, hBr⟩
              · obtain ⟨k', hk'⟩ : ∃ k', k = k' + 1 := ⟨k - 1, by omega⟩
                subst hk'
                obtain rfl : jz = (k' : Int) := by omega
                clear hj0 hj1 hk0
                generalize k' = k at *
                cases more with
                | false =>
                  as_aux_lemma =>
                    have hpk := HPI.out.bd k
                    have hlen := HPI.out.len
                    have hgc : wr.cell? ⟨w2.heap.size, k, none⟩ = some (.int .i64 (pl.getD k 0)) := by
                      rw [HOW.out.cellAt k (by omega), List.getElem?_map, List.getD_eq_getElem?_getD, List.getElem?_eq_getElem (by omega)]; rfl
                    have hgf := HOW.out.frozenAt k
                    have hl0 := HPI.out.l0
                    have hl1 := HPI.out.le
                    obtain ⟨x0, x1, x2, x3, x4, x5, x6, x7, x8⟩ := cells9 (HX.out.below hBr)
                    have HPUT := Lib.hid (fun v => HPI.out.put (i := k) (by omega) (v := v))
                    have HLN := Lib.hid hlen
                    have HGD : Hid (∀ v, pl.length = L.length → ∀ j, (pl.set k v).getD j 0 = if k = j then v else pl.getD j 0) := show ∀ _ _ _, _ from fun v h j => getD_set pl k j v (by omega)
                    have HST : Hid (∀ v, _) := show ∀ _, _ from fun v => (HOW.out.stored k (.int .i64 v)).1
                    generalize hpv : pl.getD k 0 = pv at *
                    have HPV := Lib.hid hpv
                    obtain ⟨pv0, pv1⟩ := hpk
                    have o1 := IntWalk.i64_in (cap - pv) ⟨by omega, by omega⟩
                    have i1 : (0 : Int) ≤ (k : Int) := by omega
                    have i2 : (k : Int) < (L.length : Int) := by omega
                    clear hpv hlen
                    go_upto_region 15 with fail
                    go_quiet (fail)
                    obtain ⟨n, hn⟩ : ∃ n, min left (cap - pv) = n := ⟨_, rfl⟩
                    have HN := Lib.hid hn
                    have hnb : 0 ≤ n ∧ n ≤ left ∧ n ≤ cap - pv := by omega
                    rw [hn]
                    obtain ⟨n0, n1, n2⟩ := hnb
                    have hrow5 := ownsRow_below HOW.out (below_drewN' (Below.refl wr.heap.size wr) nq)
                    have hB5 := below_drewN' hBr nq
                    have hgc5 := below_cell (below_drewN' (Below.refl wr.heap.size wr) nq) hgc
                    clear hn hgc hgf x0 x1 x2 x3 x4 x5 x6 x7 x8 o1
                    generalize wr.drewN nq = W5 at *
                    have hgf5 := hrow5.frozenAt k
                    have hst := (hrow5.stored k (.int .i64 (pv + n))).1
                    rw [← List.map_set] at hst
                    have HST5 := Lib.hid hst
                    clear hst
                    go_wp2_with fail
                    go_roundw
                    case rel => exact ⟨k, (k : Int) - 1, pl.set k (pv + n), left - n, by omega, rfl, by omega, by omega, rfl, (by show PI _ _ _ _; have h := HPUT.out (pv + n) (by omega) (by omega) (by omega); rw [show left - (pv + n - pv) = left - n by omega] at h; exact h), (show _ → ∀ _, _ from fun hl j hj1 hj2 => by
                      rw [HGD.out (pv + n) HLN.out j]
                      by_cases e : k = j
                      · rw [if_pos e]; have := HN.out; omega
                      · rw [if_neg e]; exact HF.out (by omega) j (by omega) hj2), HST5.out, hB5.setCell (p := ⟨w2.heap.size, k, none⟩) (Nat.le_refl _) _⟩
                    case measure => simp [intOf] <;> omega
                | true =>
                  by_cases h3 : 3 < ws.length
                  · have h3i : (3 : Int) < (ws.length : Int) := by omega
                    as_aux_lemma =>
                      have hpk := HPI.out.bd k
                      have hlen := HPI.out.len
                      have hgc : wr.cell? ⟨w2.heap.size, k, none⟩ = some (.int .i64 (pl.getD k 0)) := by
                        rw [HOW.out.cellAt k (by omega), List.getElem?_map, List.getD_eq_getElem?_getD, List.getElem?_eq_getElem (by omega)]; rfl
                      have hgf := HOW.out.frozenAt k
                      have hl0 := HPI.out.l0
                      have hl1 := HPI.out.le
                      obtain ⟨x0, x1, x2, x3, x4, x5, x6, x7, x8⟩ := cells9 (HX.out.below hBr)
                      have HPUT := Lib.hid (fun v => HPI.out.put (i := k) (by omega) (v := v))
                      have HLN := Lib.hid hlen
                      have HGD : Hid (∀ v, pl.length = L.length → ∀ j, (pl.set k v).getD j 0 = if k = j then v else pl.getD j 0) := show ∀ _ _ _, _ from fun v h j => getD_set pl k j v (by omega)
                      have HST : Hid (∀ v, _) := show ∀ _, _ from fun v => (HOW.out.stored k (.int .i64 v)).1
                      generalize hpv : pl.getD k 0 = pv at *
                      have HPV := Lib.hid hpv
                      obtain ⟨pv0, pv1⟩ := hpk
                      have o1 := IntWalk.i64_in (cap - pv) ⟨by omega, by omega⟩
                      have i1 : (0 : Int) ≤ (k : Int) := by omega
                      have i2 : (k : Int) < (L.length : Int) := by omega
                      clear hpv hlen
                      go_upto_region 15 with fail
                      go_quiet (fail)
                      obtain ⟨n, hn⟩ : ∃ n, min left (cap - pv) = n := ⟨_, rfl⟩
                      have HN := Lib.hid hn
                      have hnb : 0 ≤ n ∧ n ≤ left ∧ n ≤ cap - pv := by omega
                      rw [hn]
                      obtain ⟨n0, n1, n2⟩ := hnb
                      have hrow5 := ownsRow_below HOW.out (below_drewN' (Below.refl wr.heap.size wr) nq)
                      have hB5 := below_drewN' hBr nq
                      have hgc5 := below_cell (below_drewN' (Below.refl wr.heap.size wr) nq) hgc
                      clear hn hgc hgf x0 x1 x2 x3 x4 x5 x6 x7 x8 o1
                      generalize wr.drewN nq = W5 at *
                      have hgf5 := hrow5.frozenAt k
                      have hst := (hrow5.stored k (.int .i64 (pv + n))).1
                      rw [← List.map_set] at hst
                      have HST5 := Lib.hid hst
                      clear hst
                      go_wp2_with fail
                      go_roundw
                      case rel => exact ⟨k, (k : Int) - 1, pl.set k (pv + n), left - n, by omega, rfl, by omega, by omega, rfl, (by show PI _ _ _ _; have h := HPUT.out (pv + n) (by omega) (by omega) (by omega); rw [show left - (pv + n - pv) = left - n by omega] at h; exact h), (show _ → ∀ _, _ from fun hl j hj1 hj2 => by
                        rw [HGD.out (pv + n) HLN.out j]
                        by_cases e : k = j
                        · rw [if_pos e]; have := HN.out; omega
                        · rw [if_neg e]; exact HF.out (by omega) j (by omega) hj2), HST5.out, hB5.setCell (p := ⟨w2.heap.size, k, none⟩) (Nat.le_refl _) _⟩
                      case measure => simp [intOf] <;> omega
                  · have h3' : ¬ (3 : Int) < (ws.length : Int) := by omega
                    have h3'' : decide ((3 : Int) < (ws.length : Int)) = false := by simpa using h3'
                    have i1 : (0 : Int) ≤ (k : Int) := by omega
                    go_wp2_with fail
                    go_meet
                    exact ⟨pl, left, rfl, HPI, (show _ → _ from fun h => by cases h), HOW, hBr⟩
          case rest =>
            obtain ⟨pl, left, rfl, HPI, HFF, HOW, hBr⟩ := hcut
            obtain ⟨wd, rfl⟩ : ∃ wd : World, wd = wc := ⟨_, rfl⟩
            have HLE : Hid (more = false → left = 0) := show _ → _ from fun hm => left_none HK.out v9 HPI.out HNO.out hm (HFF.out hm)
            clear HFF HNO
            go_upto_region 17 with fail
            go_cut [136] (fun b wx => b = .bool false ∧ wx = wd)
            case first =>
              cases more with
              | false =>
                obtain rfl : left = 0 := HLE.out rfl
                go_wp2_with fail
                go_meet
                exact ⟨rfl, rfl⟩
              | true =>
                by_cases hl : 0 < left
                · go_wp2_with fail
                  go_meet
                  exact ⟨rfl, rfl⟩
                · have hl' : decide (0 < left) = false := by simpa using hl
                  go_wp2_with fail
                  go_meet
                  exact ⟨rfl, rfl⟩
            case rest =>
              obtain ⟨rfl, rfl⟩ := hcut
              obtain ⟨x0, x1, x2, x3, x4, x5, x6, x7, x8⟩ := cells9 (HX.out.below hBr)
              obtain ⟨p, hp⟩ : ∃ p, max 0 (min 1000000 price) = p := ⟨_, rfl⟩
              have hpb : 0 ≤ p ∧ p ≤ 1000000 := by omega
              have HEND := Lib.hid (bound_end HK.out v9 HPI.out HMN.out (p := p) hpb.1)
              obtain ⟨p0, p1⟩ := hpb
              have o1 := IntWalk.i64_in (1000000 * p) ⟨by omega, by omega⟩
              clear HLE HMN
              go_wp2_with fail
              go_quiet (fail)
              clear o1 x0 x1 x2 x3 x4 x5 x6 x7 x8
              have hBd := below_drewN' hBr nq
              have hrowd := ownsRow_below HOW.out (below_drewN' (Below.refl wc.heap.size wc) nq)
              clear hBr HOW
              generalize wc.drewN nq = wd at *
              have HROW := Lib.hid hrowd
              clear hrowd
              go_wp2_with fail
              go_loopw [18, 19, 20] (fun ps bs i wx => ∃ (k : Nat) (pe bd : Int), k ≤ L.length ∧ i = .int .i64 k ∧ ps = .int .i64 pe ∧ bs = .int .i64 bd ∧ 0 ≤ pe ∧ pe ≤ k * 1000000000000 ∧ 0 ≤ bd ∧ bd ≤ 1000000000000 + k * 1000000000000 ∧ Hid (pe = ppl zs ((L.zip pl).take k)) ∧ Hid (bd = 1000000 * p + sumF (fun c => cap * max 0 (zc zs c - p)) (L.take k)) ∧ Below wd.heap.size wd wx) (fun _ _ i _ => L.length - (intOf i).toNat)
              case atStart => exact ⟨0, 0, 1000000 * p, Nat.zero_le _, rfl, rfl, rfl, by omega, by omega, by omega, by omega, by show _ = _; simp [ppl], by show _ = _; simp [sumF], Below.refl _ _⟩
              case round =>
                obtain ⟨k, pe, bd, hk, rfl, rfl, rfl, pe0, pe1, bd0, bd1, HPE, HBD, hBx⟩ := hrel
                have hBr2 := below_trans hBd hBx
                have hBw := below_trans hB hBr2
                by_cases hlt : k < L.length
                · as_aux_lemma =>
                    obtain ⟨a', c', hac, h0 | ⟨b, off, rfl, hb, hc⟩⟩ := HI.out.below hBr2
                    · omega
                    simp only [Value.slice.injEq] at hac
                    obtain ⟨rfl, _, rfl⟩ := hac
                    have e0 := hc k (by omega)
                    have e1 : wr.cell? ⟨b, off + k, none⟩ = some (.int .i64 L[k]) := by
                      unfold intF at e0
                      simpa [hlt] using e0
                    have hcr := HK.out.r L[k] (List.getElem_mem hlt)
                    obtain ⟨a5, c5, hac, h0 | ⟨b5, off5, rfl, hb5, hc5⟩⟩ := HV.out.below hBw
                    · omega
                    simp only [Value.slice.injEq] at hac
                    obtain ⟨rfl, _, rfl⟩ := hac
                    have e3 := hc5 L[k].toNat (by omega)
                    unfold intF at e3
                    rw [← List.getD_eq_getElem?_getD] at e3
                    change _ = some (Value.int .i64 (zc zs L[k])) at e3
                    have hzb := zc_bd HK.out.z L[k]
                    have hpk := HPI.out.bd k
                    have hlen := HPI.out.len
                    have e4 : wr.cell? ⟨w2.heap.size, k, none⟩ = some (.int .i64 (pl.getD k 0)) := by
                      rw [(ownsRow_below HROW.out hBx).cellAt k (by omega), List.getElem?_map, List.getD_eq_getElem?_getD, List.getElem?_eq_getElem (by omega)]; rfl
                    have hgk : L.getD k 0 = L[k] := by simp [hlt]
                    have HT1 : Hid (ppl zs ((L.zip pl).take (k + 1)) = pe + pl.getD k 0 * zc zs L[k]) := show _ = _ from by rw [ppl_zip_snoc zs hlen hlt, HPE.out, hgk]
                    have HT2 : Hid (1000000 * p + sumF (fun c => cap * max 0 (zc zs c - p)) (L.take (k + 1)) = bd + cap * max 0 (zc zs L[k] - p)) := show _ = _ from by rw [List.take_succ_eq_append_getElem hlt, sumF_snoc, HBD.out]; omega
                    obtain ⟨m0, m1, m2, m3, m4, m5⟩ := cells6 (HM.out.below hBr2)
                    obtain ⟨x0, x1, x2, x3, x4, x5, x6, x7, x8⟩ := cells9 (HX.out.below hBr2)
                    clear hgk hlen hc hc5 e0
                    generalize zc zs L[k] = z at *
                    generalize L[k] = x at *
                    generalize pl.getD k 0 = pv at *
                    obtain ⟨xx0, xx1⟩ := hcr
                    obtain ⟨z0, z1⟩ := hzb
                    obtain ⟨pv0, pv1⟩ := hpk
                    have hx1' : ¬ (zs.length : Int) ≤ x := by omega
                    have hx1'' : decide ((zs.length : Int) ≤ x) = false := by simpa using hx1'
                    have hx0' : ¬ x < 0 := by omega
                    obtain ⟨r1, r2⟩ := mul_bd pv z 1000000 1000000 pv0 (by omega) z0 z1
                    have hm0 : 0 ≤ max 0 (z - p) ∧ max 0 (z - p) ≤ 1000000 := by omega
                    obtain ⟨r3, r4⟩ := mul_bd cap (max 0 (z - p)) 1000000 1000000 (by omega) v10 hm0.1 hm0.2
                    have o1 := IntWalk.i64_in (pv * z) ⟨by omega, by omega⟩
                    have o2 := IntWalk.i64_in (pe + pv * z) ⟨by omega, by omega⟩
                    have o3 := IntWalk.i64_in (z - p) ⟨by omega, by omega⟩
                    have o4 := IntWalk.i64_in (cap * max 0 (z - p)) ⟨by omega, by omega⟩
                    have o5 := IntWalk.i64_in (bd + cap * max 0 (z - p)) ⟨by omega, by omega⟩
                    have i1 : (0 : Int) ≤ (k : Int) := by omega
                    have i2 : (k : Int) < (L.length : Int) := by omega
                    have HTX := Lib.hid (show 0 ≤ pe + pv * z ∧ pe + pv * z ≤ (k : Int) * 1000000000000 + 1000000000000 ∧ 0 ≤ bd + cap * max 0 (z - p) ∧ bd + cap * max 0 (z - p) ≤ 1000000000000 + (k : Int) * 1000000000000 + 1000000000000 by omega)
                    clear hm0 r1 r2 r3 r4
                    go_wp2_with fail
                    go_quiet (fail)
                    have hdr := below_drewN' (Below.refl wr.heap.size wr) nq
                    have e1 := below_cell hdr e1
                    have e3 := below_cell hdr e3
                    have e4 := below_cell hdr e4
                    have m5 := below_cell hdr m5
                    have x5 := below_cell hdr x5
                    have x8 := below_cell hdr x8
                    have hBx := below_drewN' hBx nq
                    clear hdr hBr2 hBw m0 m1 m2 m3 m4 x0 x1 x2 x3 x4 x6 x7
                    generalize wr.drewN nq = W5 at *
                    clear nq
                    go_wp2_with fail
                    go_quiet (fail)
                    have hdr := below_drewN' (Below.refl W5.heap.size W5) nq
                    have e1 := below_cell hdr e1
                    have e3 := below_cell hdr e3
                    have m5 := below_cell hdr m5
                    have x5 := below_cell hdr x5
                    have x8 := below_cell hdr x8
                    have hBx := below_drewN' hBx nq
                    clear hdr e4
                    generalize W5.drewN nq = W6 at *
                    clear nq
                    go_wp2_with fail
                    go_quiet (fail)
                    clear o1 o2 o3 o4 o5
                    go_wp2_with fail
                    go_roundw
                    case rel => exact ⟨k + 1, pe + pv * z, bd + cap * max 0 (z - p), by omega, by go_num, rfl, rfl, HTX.out.1, (by have := HTX.out.2.1; push_cast; omega), HTX.out.2.2.1, (by have := HTX.out.2.2.2; push_cast; omega), (by show _ = _; rw [HT1.out]), (by show _ = _; rw [HT2.out]), below_drewN' hBx _⟩
                    case measure => simp [intOf]; omega
                · obtain rfl : k = L.length := by omega
                  as_aux_lemma =>
                    have hzt : (L.zip pl).take L.length = L.zip pl := List.take_of_length_le (by rw [List.length_zip]; omega)
                    obtain ⟨q1, q2, q3⟩ := HEND.out
                    have e1 := HPE.out
                    have e2 := HBD.out
                    rw [hzt] at e1
                    rw [List.take_length] at e2
                    unfold bnd at q2 q3
                    rw [← e1] at q1 q2
                    rw [← e2] at q2 q3
                    clear e1 e2 hzt HPE HBD HEND HI HM HX HROW HPI HK
                    go_wp2_with fail
                    refine (awake_true _ (HT.out.below hBw)).mono ?_
                    rintro e w9 ⟨rfl, hb9⟩
                    go_wp2_with fail
                    go_ret
                    exact ⟨rfl, below_trans hBw hb9⟩
  · have h0' : (mE cx cy size cols rows zs xl xh yl yh lethal cap != 0) = true := by simpa using h0
    clear h0
    generalize mE cx cy size cols rows zs xl xh yl yh lethal cap = E at *
    generalize mN cx cy size cols rows zs xl xh yl yh lethal cap = N at *
    go_enter Tryz.func6, Tryz.ntmps6
    go_wp2_with fail
    obtain ⟨hM, hX, hz, hB⟩ := alloc2 w #[.int .i64 cx, .int .i64 cy, .int .i64 size, .int .i64 cols, .int .i64 rows, .slice a zs.length c] #[.int .i64 xl, .int .i64 xh, .int .i64 yl, .int .i64 yh, .int .i64 lethal, .int .i64 cap, sv, .int .i64 out, .int .i64 price] 42 49
    clear hz
    generalize (w.alloc (.cells #[.int .i64 cx, .int .i64 cy, .int .i64 size, .int .i64 cols, .int .i64 rows, .slice a zs.length c] 42)).alloc (.cells #[.int .i64 xl, .int .i64 xh, .int .i64 yl, .int .i64 yh, .int .i64 lethal, .int .i64 cap, sv, .int .i64 out, .int .i64 price] 49) = W0 at *
    refine (HM1.out _ (HV.out.below hB)).mono ?_
    rintro e w1 ⟨va, vm, vc, o1, o2, rfl, hb1⟩
    have hb1 := balloc hb1 (.cells #[.slice va vm vc, .int .i64 o1, .int .i64 o2] 47)
    have hM := hM.below hb1
    have hX := hX.below hb1
    have hB := below_trans hB hb1
    obtain ⟨m0, m1, m2, m3, m4, m5⟩ := cells6 hM
    obtain ⟨x0, x1, x2, x3, x4, x5, x6, x7, x8⟩ := cells9 hX
    clear hb1
    go_wp2_with fail
    refine (HCL.out _ (HV.out.below hB)).mono ?_
    rintro e w2 ⟨lv, rfl, hown, hb2⟩
    clear m0 m1 m2 m3 m4 m5 x0 x1 x2 x3 x4 x5 x6 x7 x8
    have hM := hM.below hb2
    have hX := hX.below hb2
    have hB := below_trans hB hb2
    obtain ⟨x0, x1, x2, x3, x4, x5, x6, x7, x8⟩ := cells9 hX
    go_wp2_with fail
    refine (awake_true _ (HT.out.below hB)).mono ?_
    rintro e w3 ⟨rfl, hb3⟩
    go_wp2_with fail
    go_ret
    exact ⟨rfl, below_trans hB hb3⟩
end Go.Proofs.YtmglbegbijofkaaGreatDoor
