import Derived.Test.YtmglbegbijofkaaGreatDoorW69
import Derived.Test.YtmglbegbijofkaaGreatDoorPB
set_option linter.unusedVariables false
set_option linter.unusedSimpArgs false
namespace Go.Proofs.YtmglbegbijofkaaGreatDoor
open Go.RowKit
theorem getD_cell {w : World} {b off n : Nat} {zs : List Int} (hc : ∀ i, i < n → w.cell? ⟨b, off + i, none⟩ = some (intF zs i)) (x : Int) (h0 : 0 ≤ x) (h1 : x < n) : w.cell? ⟨b, off + x.toNat, none⟩ = some (.int .i64 (zs.getD x.toNat 0)) := by
  have h := hc x.toNat (by omega)
  unfold intF at h
  rw [← List.getD_eq_getElem?_getD] at h
  exact h
set_option maxRecDepth 100000 in
set_option maxHeartbeats 800000 in
theorem fullest_any (cx cy size cols rows : Int) (pv lv gvv : Value) (zs L G : List Int) (w : World) (hv : IntsAt w pv zs) (hl : IntsAt w lv L) (hg : IntsAt w gvv G) (hr : ∀ x ∈ L, 0 ≤ x ∧ x < (zs.length : Int)) (hG : G.length = zs.length) (hn : zs.length ≤ 400) (hL4 : L.length ≤ 400) :
    Calls Tryz.prog 122 #[.agg #[.int .i64 cx, .int .i64 cy, .int .i64 size, .int .i64 cols, .int .i64 rows, pv], lv, gvv] w fun e w' => e = .returned (.int .i64 (fullF zs G L)) ∧ Below w.heap.size w w' := by
  obtain ⟨a, c, rfl, hrv⟩ := id hv
  obtain ⟨a1, c1, rfl, hrl⟩ := id hl
  obtain ⟨a2, c2, rfl, hrg⟩ := id hg
  have HV := Lib.hid hv
  have HL := Lib.hid hl
  have HG := Lib.hid hg
  have HR := Lib.hid hr
  have HGL := Lib.hid hG
  clear hG
  clear hv hl hg hr hrv hrl hrg
  go_enter Tryz.func122, Tryz.ntmps122
  go_wp2_with fail
  have hM := cellsNew w #[.int .i64 cx, .int .i64 cy, .int .i64 size, .int .i64 cols, .int .i64 rows, .slice a zs.length c] 42
  have hW : Below w.heap.size w (w.alloc (.cells #[.int .i64 cx, .int .i64 cy, .int .i64 size, .int .i64 cols, .int .i64 rows, .slice a zs.length c] 42)) := (by repeat (first | exact Below.refl _ _ | assumption | refine balloc ?_ _ | refine below_trans ?_ (by assumption) | refine Below.drew ?_ | refine below_drewN ?_ _ | refine Below.setCell ?_ (by simp <;> omega) _))
  generalize w.alloc (.cells #[.int .i64 cx, .int .i64 cy, .int .i64 size, .int .i64 cols, .int .i64 rows, .slice a zs.length c] 42) = W1 at *
  have hM := Lib.hid hM
  go_loopw [7, 8] (fun o i wr => ∃ (k : Nat) (r : Int), k ≤ L.length ∧ i = .int .i64 k ∧ o = .int .i64 r ∧ Hid (r = -1 ∨ (0 ≤ r ∧ r < zs.length)) ∧ Hid (r = fullF zs G (L.take k)) ∧ Below W1.heap.size W1 wr) (fun _ i _ => L.length - (intOf i).toNat)
  case atStart => exact ⟨0, -1, Nat.zero_le _, rfl, rfl, .inl rfl, rfl, Below.refl _ _⟩
  case round =>
    obtain ⟨k, r, hk, rfl, rfl, HRR, HF, hB⟩ := hrel
    by_cases hlt : k < L.length
    · have hBw := below_trans hW hB
      have hx := HR.out L[k] (List.getElem_mem hlt)
      obtain ⟨m0, m1, m2, m3, m4, m5⟩ := cells6 (hM.out.below hB)
      obtain ⟨a3, c3, hac, h0 | ⟨b, off, rfl, hb, hc⟩⟩ := HL.out.below hBw
      · omega
      simp only [Value.slice.injEq] at hac
      obtain ⟨rfl, _, rfl⟩ := hac
      have e1 : wr.cell? ⟨b, off + k, none⟩ = some (.int .i64 L[k]) := by
        have := hc k (by omega)
        unfold intF at this
        simpa [hlt] using this
      have HST : Hid (fullF zs G (L.take (k + 1)) = fullStep zs G r L[k]) := show _ = _ from by rw [List.take_succ_eq_append_getElem hlt, fullF_snoc, HF.out]
      obtain ⟨a4, c4, hac, h0 | ⟨b4, off4, rfl, hb4, hc4⟩⟩ := HG.out.below hBw
      · have := HGL.out; omega
      simp only [Value.slice.injEq] at hac
      obtain ⟨rfl, _, rfl⟩ := hac
      obtain ⟨a5, c5, hac, h0 | ⟨b5, off5, rfl, hb5, hc5⟩⟩ := HV.out.below hBw
      · omega
      simp only [Value.slice.injEq] at hac
      obtain ⟨rfl, _, rfl⟩ := hac
      generalize L[k] = x at *
      obtain ⟨x0, x1⟩ := hx
      have e2 := getD_cell (zs := G) (fun i hi => hc4 i (by omega)) x x0 (by have := HGL.out; omega)
      have e3 := getD_cell (zs := zs) (fun i hi => hc5 i (by omega)) x x0 x1
      have i1 : (0 : Int) ≤ (k : Int) := by omega
      have i2 : (k : Int) < (L.length : Int) := by omega
      have x2 : x < (G.length : Int) := by have := HGL.out; omega
      have HC5 := Lib.hid hc5
      clear hc hc4 hc5 hBw
      by_cases hg0 : G.getD x.toNat 0 = 0
      · rw [hg0] at e2
        rcases HRR.out with rfl | ⟨r0, r1⟩
        · have HX : Hid (fullStep zs G (-1) x = x) := show _ = _ from if_pos ⟨hg0, Or.inl (by omega)⟩
          clear hg0 HC5
          go_wp2_with fail
          go_quiet (fail)
          go_wp2_with fail
          go_roundw
          case rel => exact ⟨k + 1, x, by omega, by go_num, rfl, .inr ⟨x0, x1⟩, by show _ = _; rw [HST.out, HX.out], below_drewN' hB _⟩
          case measure => simp [intOf]; omega
        · have e4 := getD_cell (zs := zs) (fun i hi => HC5.out i (by omega)) r r0 r1
          have hr0 : ¬ r < 0 := by omega
          by_cases hzz : zs.getD r.toNat 0 < zs.getD x.toNat 0
          · have HX : Hid (fullStep zs G r x = x) := show _ = _ from if_pos ⟨hg0, Or.inr hzz⟩
            clear hg0 HC5
            generalize zs.getD r.toNat 0 = zr at *
            generalize zs.getD x.toNat 0 = zx at *
            go_wp2_with fail
            go_quiet (fail)
            go_wp2_with fail
            go_roundw
            case rel => exact ⟨k + 1, x, by omega, by go_num, rfl, .inr ⟨x0, x1⟩, by show _ = _; rw [HST.out, HX.out], below_drewN' hB _⟩
            case measure => simp [intOf]; omega
          · have HX : Hid (fullStep zs G r x = r) := show _ = _ from if_neg (by rintro ⟨_, h | h⟩; exact hr0 h; exact hzz h)
            have hz' : decide (zs.getD r.toNat 0 < zs.getD x.toNat 0) = false := by simpa using hzz
            clear hg0 HC5
            generalize zs.getD r.toNat 0 = zr at *
            generalize zs.getD x.toNat 0 = zx at *
            go_wp2_with fail
            go_quiet (fail)
            go_wp2_with fail
            go_roundw
            case rel => exact ⟨k + 1, r, by omega, by go_num, rfl, .inr ⟨r0, r1⟩, by show _ = _; rw [HST.out, HX.out], below_drewN' hB _⟩
            case measure => simp [intOf]; omega
      · have HX : Hid (fullStep zs G r x = r) := show _ = _ from if_neg (fun h => hg0 h.1)
        have hg1 : (G.getD x.toNat 0 == 0) = false := by simpa using hg0
        clear hg0 HC5
        generalize G.getD x.toNat 0 = gx at *
        go_wp2_with fail
        go_quiet (fail)
        go_wp2_with fail
        go_roundw
        case rel => exact ⟨k + 1, r, by omega, by go_num, rfl, HRR, by show _ = _; rw [HST.out, HX.out], below_drewN' hB _⟩
        case measure => simp [intOf]; omega
    · obtain rfl : k = L.length := by omega
      go_wp2_with fail
      go_ret
      exact ⟨ret_int (by rw [HF.out, List.take_length]), below_trans hW hB⟩
set_option maxRecDepth 100000 in
set_option maxHeartbeats 800000 in
theorem rpeople_any (cx cy size cols rows : Int) (pv sv : Value) (out price : Int) (zs : List Int) (ps : List (Int × Int)) (w : World) (hv : IntsAt w pv zs) (hs : SpansAt w sv ps) (hz : ∀ z ∈ zs, 0 ≤ z ∧ z ≤ 1000000) (hp : PartsOK zs ps) (hn : ps.length ≤ 1000000) :
    Calls Tryz.prog 123 #[.agg #[.int .i64 cx, .int .i64 cy, .int .i64 size, .int .i64 cols, .int .i64 rows, pv], .agg #[sv, .int .i64 out, .int .i64 price]] w fun e w' => e = .returned (.int .i64 (ppl zs ps)) ∧ Below w.heap.size w w' := by
  obtain ⟨a, c, rfl, hx⟩ := id hs
  obtain ⟨a2, c2, rfl, hy⟩ := id hv
  clear hx hy
  have HV := Lib.hid hv
  have HS := Lib.hid hs
  have HZ := Lib.hid hz
  have HP := Lib.hid hp
  clear hv hs hz hp
  go_enter Tryz.func123, Tryz.ntmps123
  go_wp2_with fail
  have m5 : ((w.alloc (.cells #[.int .i64 cx, .int .i64 cy, .int .i64 size, .int .i64 cols, .int .i64 rows, .slice a2 zs.length c2] 42)).alloc (.cells #[.slice a ps.length c, .int .i64 out, .int .i64 price] 47)).cell? ⟨w.heap.size, 5, none⟩ = some (.slice a2 zs.length c2) := by simp
  have s0 : ((w.alloc (.cells #[.int .i64 cx, .int .i64 cy, .int .i64 size, .int .i64 cols, .int .i64 rows, .slice a2 zs.length c2] 42)).alloc (.cells #[.slice a ps.length c, .int .i64 out, .int .i64 price] 47)).cell? ⟨w.heap.size + 1, 0, none⟩ = some (.slice a ps.length c) := by simp
  have hW : Below w.heap.size w ((w.alloc (.cells #[.int .i64 cx, .int .i64 cy, .int .i64 size, .int .i64 cols, .int .i64 rows, .slice a2 zs.length c2] 42)).alloc (.cells #[.slice a ps.length c, .int .i64 out, .int .i64 price] 47)) := (by repeat (first | exact Below.refl _ _ | assumption | refine balloc ?_ _ | refine below_trans ?_ (by assumption) | refine Below.drew ?_ | refine below_drewN ?_ _ | refine Below.setCell ?_ (by simp <;> omega) _))
  generalize (w.alloc (.cells #[.int .i64 cx, .int .i64 cy, .int .i64 size, .int .i64 cols, .int .i64 rows, .slice a2 zs.length c2] 42)).alloc (.cells #[.slice a ps.length c, .int .i64 out, .int .i64 price] 47) = W1 at *
  go_loopw [5, 6] (fun n i wr => ∃ k : Nat, k ≤ ps.length ∧ i = .int .i64 k ∧ n = .int .i64 (ppl zs (ps.take k)) ∧ Below W1.heap.size W1 wr) (fun _ i _ => ps.length - (intOf i).toNat)
  case atStart => exact ⟨0, Nat.zero_le _, rfl, by simp [ppl], Below.refl _ _⟩
  case round =>
    obtain ⟨k, hk, rfl, rfl, hB⟩ := hrel
    have m5' := below_cell hB m5
    have s0' := below_cell hB s0
    by_cases hlt : k < ps.length
    · have hBw := below_trans hW hB
      obtain ⟨a', c', hac, h0 | ⟨b, off, rfl, hb, hc⟩⟩ := HS.out.below hBw
      · omega
      · simp only [Value.slice.injEq] at hac
        obtain ⟨rfl, _, rfl⟩ := hac
        have hck := hc (k * 2) (by omega)
        have hck1 := hc (k * 2 + 1) (by omega)
        rw [spanF_even ps k hlt] at hck
        rw [spanF_odd ps k hlt, ← Nat.add_assoc] at hck1
        have hpk := HP.out ps[k] (List.getElem_mem hlt)
        have HT := Lib.hid (ppl_snoc zs (ps.take k) ps[k])
        have HTK : Hid (ps.take (k + 1) = ps.take k ++ [ps[k]]) := show _ = _ from List.take_succ_eq_append_getElem hlt
        have hbd := ppl_bd zs HZ.out (ps.take k) (fun q hq => HP.out q (List.mem_of_mem_take hq))
        have hlk : (ps.take k).length ≤ 1000000 := by simp; omega
        have hzi : 0 ≤ zs.getD ps[k].1.toNat 0 ∧ zs.getD ps[k].1.toNat 0 ≤ 1000000 := by
          have hl : ps[k].1.toNat < zs.length := by omega
          have := HZ.out zs[ps[k].1.toNat] (List.getElem_mem hl)
          simpa [hl] using this
        obtain ⟨a3, c3, hac3, h0 | ⟨b3, off3, rfl, hb3, hc3⟩⟩ := HV.out.below hBw
        · omega
        · simp only [Value.slice.injEq] at hac3
          obtain ⟨rfl, _, rfl⟩ := hac3
          have hzc := hc3 ps[k].1.toNat (by omega)
          unfold intF at hzc
          have HTT : Hid (ppl zs (ps.take (k + 1)) = ppl zs (ps.take k) + ps[k].2 * zs.getD ps[k].1.toNat 0) := show _ = _ from by rw [HTK.out, HT.out]
          rw [← List.getD_eq_getElem?_getD] at hzc
          generalize zs.getD ps[k].1.toNat 0 = z at *
          generalize ppl zs (ps.take k) = acc at *
          obtain ⟨q1, q2, q3, q4⟩ := hpk
          generalize ps[k].1 = pc at *
          generalize ps[k].2 = pp at *
          obtain ⟨r1, r2⟩ := mul_bd pp z 1000000 1000000 q3 q4 hzi.1 hzi.2
          have o1 := IntWalk.i64_in (pp * z) ⟨by omega, by omega⟩
          have o2 := IntWalk.i64_in (acc + pp * z) ⟨by omega, by omega⟩
          have i1 : (0 : Int) ≤ (k : Int) := by omega
          have i2 : (k : Int) < (ps.length : Int) := by omega
          clear hc hc3 HT HTK hbd hlk hzi
          go_wp2_with fail
          go_quiet (fail)
          clear o1 o2
          go_wp2_with fail
          go_roundw
          case rel => exact ⟨k + 1, by omega, by go_num, by rw [HTT.out], below_drewN' hB _⟩
          case measure => simp [intOf]; omega
    · obtain rfl : k = ps.length := by omega
      go_wp2_with fail
      go_ret
      exact ⟨ret_int (by rw [List.take_length]), below_trans hW hB⟩
end Go.Proofs.YtmglbegbijofkaaGreatDoor
