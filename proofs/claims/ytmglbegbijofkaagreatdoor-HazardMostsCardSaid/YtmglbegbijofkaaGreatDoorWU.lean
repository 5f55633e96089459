import Derived.Test.YtmglbegbijofkaaGreatDoorWQ
import Derived.Test.YtmglbegbijofkaaGreatDoorW69
import Derived.Test.YtmglbegbijofkaaGreatDoorW64
import Derived.Test.YtmglbegbijofkaaGreatDoorW65
import Derived.Test.YtmglbegbijofkaaGreatDoorW22
set_option linter.unusedVariables false
set_option linter.unusedSimpArgs false
namespace Go.Proofs.YtmglbegbijofkaaGreatDoor
open Go.RowKit Go.Shelf Go.Sort
set_option maxRecDepth 100000 in
set_option maxHeartbeats 800000 in
theorem rbound_any (cx cy size cols rows : Int) (pv lv : Value) (zs L : List Int) (cap price : Int) (w : World) (hv : IntsAt w pv zs) (hl : IntsAt w lv L) (hz : ∀ z ∈ zs, 0 ≤ z ∧ z ≤ 1000000) (hr : ∀ x ∈ L, 0 ≤ x ∧ x < (zs.length : Int)) (hL : L.length ≤ 400) (hn : zs.length ≤ 400) (c0 : 1 ≤ cap) (v10 : cap ≤ 1000000) (p0 : 0 ≤ price) (p1 : price ≤ 1000000) :
    Calls Tryz.prog 126 #[.agg #[.int .i64 cx, .int .i64 cy, .int .i64 size, .int .i64 cols, .int .i64 rows, pv], lv, .int .i64 cap, .int .i64 price] w fun e w' => e = .returned (.int .i64 (bnd zs cap L price)) ∧ Below w.heap.size w w' := by
  obtain ⟨pa, pc, rfl, hx⟩ := id hv
  clear hx
  obtain ⟨la, lc, rfl, hx⟩ := id hl
  clear hx
  have HV := Lib.hid hv
  have HI := Lib.hid hl
  have HZ := Lib.hid hz
  have HR := Lib.hid hr
  clear hv hl hz hr
  go_enter Tryz.func126, Tryz.ntmps126
  have q0 := IntWalk.i64_in (1000000 * price) ⟨by omega, by omega⟩
  go_wp2_with fail
  clear q0
  have hM := cellsNew w #[.int .i64 cx, .int .i64 cy, .int .i64 size, .int .i64 cols, .int .i64 rows, .slice pa zs.length pc] 42
  have hB : Below w.heap.size w (w.alloc (.cells #[.int .i64 cx, .int .i64 cy, .int .i64 size, .int .i64 cols, .int .i64 rows, .slice pa zs.length pc] 42)) := (by repeat (first | exact Below.refl _ _ | assumption | refine balloc ?_ _ | refine below_trans ?_ (by assumption) | refine Below.drew ?_ | refine below_drewN ?_ _ | refine Below.setCell ?_ (by simp <;> omega) _))
  generalize w.alloc (.cells #[.int .i64 cx, .int .i64 cy, .int .i64 size, .int .i64 cols, .int .i64 rows, .slice pa zs.length pc] 42) = W0 at *
  go_loopw [9, 10] (fun bs i wr => ∃ (k : Nat) (acc : Int), k ≤ L.length ∧ i = .int .i64 k ∧ bs = .int .i64 acc ∧ 0 ≤ acc ∧ acc ≤ 1000000000000 + k * 1000000000000 ∧ Hid (acc = 1000000 * price + sumF (fun c => cap * max 0 (zc zs c - price)) (L.take k)) ∧ Below W0.heap.size W0 wr) (fun _ i _ => L.length - (intOf i).toNat)
  case atStart => exact ⟨0, 1000000 * price, Nat.zero_le _, rfl, rfl, by omega, by omega, by show _ = _; simp [sumF], Below.refl _ _⟩
  case round =>
    obtain ⟨k, acc, hk, rfl, rfl, ha0, ha1, HAC, hB3⟩ := hrel
    obtain ⟨m0, m1, m2, m3, m4, m5⟩ := cells6 (hM.below hB3)
    have hBw := below_trans hB hB3
    by_cases hlt : k < L.length
    · obtain ⟨a', c', hac, h0 | ⟨b, off, rfl, hb, hc⟩⟩ := HI.out.below hBw
      · omega
      simp only [Value.slice.injEq] at hac
      obtain ⟨rfl, _, rfl⟩ := hac
      have hx := HR.out L[k] (List.getElem_mem hlt)
      have e0 := hc k (by omega)
      have HTT : Hid (1000000 * price + sumF (fun c => cap * max 0 (zc zs c - price)) (L.take (k + 1)) = acc + cap * max 0 (zc zs L[k] - price)) := show _ = _ from by
        rw [List.take_succ_eq_append_getElem hlt, sumF_snoc, HAC.out]; omega
      have e1 : wr.cell? ⟨b, off + k, none⟩ = some (.int .i64 L[k]) := by
        unfold intF at e0
        simpa [hlt] using e0
      obtain ⟨a5, c5, hac, h0 | ⟨b5, off5, rfl, hb5, hc5⟩⟩ := HV.out.below hBw
      · omega
      simp only [Value.slice.injEq] at hac
      obtain ⟨rfl, _, rfl⟩ := hac
      have e3 := hc5 L[k].toNat (by omega)
      unfold intF at e3
      rw [← List.getD_eq_getElem?_getD] at e3
      have hzb := zc_bd HZ.out L[k]
      change _ = some (Value.int .i64 (zc zs L[k])) at e3
      generalize zc zs L[k] = z at *
      generalize L[k] = x at *
      obtain ⟨x0, x1⟩ := hx
      obtain ⟨z0, z1⟩ := hzb
      have i1 : (0 : Int) ≤ (k : Int) := by omega
      have i2 : (k : Int) < (L.length : Int) := by omega
      clear hc hc5 e0
      have o1 := IntWalk.i64_in (z - price) ⟨by omega, by omega⟩
      have hm0 : 0 ≤ max 0 (z - price) ∧ max 0 (z - price) ≤ 1000000 := by omega
      obtain ⟨r1, r2⟩ := mul_bd cap (max 0 (z - price)) 1000000 1000000 (by omega) v10 hm0.1 hm0.2
      have o2 := IntWalk.i64_in (cap * max 0 (z - price)) ⟨by omega, by omega⟩
      have o3 := IntWalk.i64_in (acc + cap * max 0 (z - price)) ⟨by omega, by omega⟩
      go_wp2_with fail
      go_region
      clear o1 o2 o3
      go_wp2_with fail
      go_roundw
      case rel => exact ⟨k + 1, acc + cap * max 0 (z - price), by omega, by go_num, rfl, by omega, by omega, by show _ = _; rw [HTT.out], hB3.drew⟩
      case measure => simp [intOf]; omega
    · obtain rfl : k = L.length := by omega
      rw [List.take_length] at HAC
      have HBN : Hid (acc = bnd zs cap L price) := show _ = _ from HAC.out
      go_wp2_with fail
      go_ret
      exact ⟨ret_int (by rw [HBN.out]), below_trans hB hB3⟩
end Go.Proofs.YtmglbegbijofkaaGreatDoor
namespace Go.Proofs.YtmglbegbijofkaaGreatDoor
open Go.RowKit Go.Shelf Go.Sort
set_option maxRecDepth 100000 in
set_option maxHeartbeats 800000 in
theorem rhas_same (v : Value) (l : List Int) (n : Int) (w : World) (ha : IntsAt w v l) (hn : l.length ≤ 1000000) : Calls Tryz.prog 168 #[v, .int .i64 n] w fun e w' => e = .returned (.bool (l.contains n)) ∧ w = w' := by
  obtain ⟨a1, c1, rfl, hr1⟩ := ha
  go_enter Tryz.func168, Tryz.ntmps168
  go_wp2_with fail
  go_loopw [5] (fun i wr => ∃ k : Nat, k ≤ l.length ∧ i = .int .i64 k ∧ wr = w ∧ Hid (l.contains n = (l.drop k).contains n)) (fun i _ => l.length - (intOf i).toNat)
  case atStart => exact ⟨0, Nat.zero_le _, rfl, (by first | rfl | trivial), rfl⟩
  case round =>
    obtain ⟨k, hk, rfl, rfl, HC⟩ := hrel
    by_cases hlt : k < l.length
    · rcases hr1 with h0 | ⟨b, off, rfl, hb, hc⟩
      · omega
      · have e1 := hc k (by omega)
        unfold intF at e1
        have HD : Hid ((l.drop k).contains n = (n == l[k]?.getD 0 || (l.drop (k + 1)).contains n)) := show _ = _ from by
          rw [List.drop_eq_getElem_cons hlt, List.contains_cons]; simp [hlt]
        generalize l[k]?.getD 0 = z at *
        have i1 : (0 : Int) ≤ (k : Int) := by omega
        have i2 : (k : Int) < (l.length : Int) := by omega
        clear hc
        by_cases hz : z = n
        · subst hz
          go_wp2_with fail
          go_ret
          exact ⟨ret_bool (by rw [HC.out, HD.out]; simp), rfl⟩
        · have hz1 : (z == n) = false := by simpa using hz
          have HZ : Hid ((n == z) = false) := show _ = _ from by simpa using fun h => hz h.symm
          clear hz
          go_wp2_with fail
          go_roundw
          case rel => exact ⟨k + 1, by omega, by go_num, (by first | rfl | trivial), by show _ = _; rw [HC.out, HD.out, HZ.out]; rfl⟩
          case measure => simp [intOf]; omega
    · obtain rfl : k = l.length := by omega
      go_wp2_with fail
      go_ret
      exact ⟨ret_bool (by rw [HC.out]; simp), rfl⟩
/-- the cell ahead of number k -/
def prevC (ps : List (Int × Int)) (k : Nat) : Int := if k = 0 then -1 else (ps.getD (k - 1) (0, 0)).1
theorem prevC_zero (ps : List (Int × Int)) : prevC ps 0 = -1 := rfl
theorem prevC_succ {ps : List (Int × Int)} {k : Nat} (h : k < ps.length) : prevC ps (k + 1) = ps[k].1 := by
  unfold prevC
  rw [if_neg (by omega), Nat.add_sub_cancel]
  simp [h]
theorem out_most_true (out price : Int) : outBad true out price = (outB out 0 1000000 || outB price 0 1000000) := by simp [outBad]
theorem out_most_false (out price : Int) : outBad false out price = (outB out 0 0 || outB price 0 1000000) := by
  unfold outBad
  by_cases h : outB out 0 0 = true
  · rw [h]
    by_cases h2 : outB out 0 1000000 = true
    · rw [h2]; rfl
    · have h2 := outB_false.1 (by simpa using h2)
      have h3 : 0 < out := by
        by_cases h4 : 0 < out
        · exact h4
        · rw [outB_false.2 (by omega)] at h; cases h
      simp [h3]
  · have h := outB_false.1 (by simpa using h)
    rw [outB_false.2 (show 0 ≤ out ∧ out ≤ 1000000 by omega), outB_false.2 h]
    have h3 : ¬ 0 < out := by omega
    simp [h3]
set_option maxRecDepth 100000 in
set_option maxHeartbeats 2000000 in
theorem rspread_any (cx cy size cols rows : Int) (pv : Value) (zs : List Int) (xl xh yl yh lethal cap : Int) (sv : Value) (out price : Int) (ps : List (Int × Int)) (w : World) (hv : IntsAt w pv zs) (hs : SpansAt w sv ps) (hn : zs.length ≤ 9223372036854775806) (hpl : ps.length ≤ 9223372036854775806)
    (h0 : askE cx cy size cols rows zs xl xh yl yh lethal cap = 0) :
    Calls Tryz.prog 125 #[.agg #[.int .i64 cx, .int .i64 cy, .int .i64 size, .int .i64 cols, .int .i64 rows, pv], .agg #[.int .i64 xl, .int .i64 xh, .int .i64 yl, .int .i64 yh], .agg #[.int .i64 lethal, .int .i64 cap], .agg #[sv, .int .i64 out, .int .i64 price]] w fun e w' =>
      e = .returned (.int .i64 (sprE (cellsL cx cy size cols rows xl xh yl yh) (cellsM cx cy size cols rows xl xh yl yh) cap ps out price)) ∧ Below w.heap.size w w' := by
  obtain ⟨pa, pc, rfl, hx⟩ := id hv
  clear hx
  obtain ⟨sa, sc, rfl, hx⟩ := id hs
  clear hx
  have HV := Lib.hid hv
  have HSV := Lib.hid hs
  have k := ask_ok h0
  obtain ⟨⟨u1, u2⟩, ⟨u3, u4⟩, ⟨u5, u6⟩, ⟨u7, u8⟩, u9, u10⟩ := mapB_false.1 k.mapb
  obtain ⟨v9, v10⟩ := outB_false.1 k.capb
  have HR := Lib.hid k.cells.r
  have hn4 := k.cells.n4
  have hL4 := k.cells.len
  have HRC := Lib.hid (fun W (hW : IntsAt W (.slice pa zs.length pc) zs) => rcells_any cx cy size cols rows _ zs xl xh yl yh W hW u1 u2 u3 u4 u5 u6 u7 u8 hn4)
  have HRO := Lib.hid (fun W => routside_any cx cy size cols rows (.slice pa zs.length pc) xl xh yl yh W u1 u2 u3 u4 u5 u6 u7 u8 u9 u10)
  have HMO : Hid (outsideB cx cy (1000 * size) cols rows xl xh yl yh = cellsM cx cy size cols rows xl xh yl yh) := show _ = _ from outside_eq cx cy (1000 * size) cols rows xl xh yl yh (by omega)
  rw [HMO.out] at HRO
  unfold RCellsPost at HRC
  rw [← cellsL_fl h0] at HRC
  clear k h0 hv hs HMO
  generalize cellsL cx cy size cols rows xl xh yl yh = L at *
  generalize cellsM cx cy size cols rows xl xh yl yh = more at *
  go_enter Tryz.func125, Tryz.ntmps125
  go_wp2_with fail
  obtain ⟨hM0, hA0, hW0, hS0, hz0, hB0⟩ := alloc4 w #[.int .i64 cx, .int .i64 cy, .int .i64 size, .int .i64 cols, .int .i64 rows, .slice pa zs.length pc] #[.int .i64 xl, .int .i64 xh, .int .i64 yl, .int .i64 yh] #[.int .i64 lethal, .int .i64 cap] #[.slice sa ps.length sc, .int .i64 out, .int .i64 price] 42 25 44 47
  generalize (((w.alloc (.cells #[.int .i64 cx, .int .i64 cy, .int .i64 size, .int .i64 cols, .int .i64 rows, .slice pa zs.length pc] 42)).alloc (.cells #[.int .i64 xl, .int .i64 xh, .int .i64 yl, .int .i64 yh] 25)).alloc (.cells #[.int .i64 lethal, .int .i64 cap] 44)).alloc (.cells #[.slice sa ps.length sc, .int .i64 out, .int .i64 price] 47) = W0 at *
  have HZ0 := Lib.hid hz0
  clear hz0
  refine (HRC.out W0 (HV.out.below hB0)).mono ?_
  rintro e w1 ⟨lv, rfl, hown, hb1⟩
  have HI := Lib.hid (ints_at_row hown)
  obtain ⟨la, lc, rfl, hx⟩ := id (ints_at_row hown)
  clear hx hown
  have hM1 := hM0.below hb1
  have hA1 := hA0.below hb1
  have hW1 := hW0.below hb1
  have hS1 := hS0.below hb1
  have hB1 := below_trans hB0 hb1
  have hz1 : w.heap.size + 4 ≤ w1.heap.size := by have := hb1.size; rw [HZ0.out] at this; exact this
  clear hM0 hA0 hW0 hS0 hB0 hb1
  obtain ⟨m0, m1, m2, m3, m4, m5⟩ := cells6 hM1
  obtain ⟨x0, x1, x2, x3⟩ := cells4 hA1
  cases more
  · go_wp2_with fail
    refine (HRO.out _).mono ?_
    rintro e w3 ⟨rfl, hb3⟩
    have HW3 := Lib.hid (hW1.below hb3)
    have HS3 := Lib.hid (hS1.below hb3)
    have HI3 := Lib.hid (HI.out.below hb3)
    have hBw := below_trans hB1 hb3
    have HSZ : Hid (w.heap.size + 4 ≤ w3.heap.size) := show _ ≤ _ from by have := hb3.size; omega
    clear hM1 hA1 hW1 hS1 hB1 hz1 hb3 m0 m1 m2 m3 m4 m5 x0 x1 x2 x3
    have hsl : w.heap.size + 4 ≤ w3.heap.size := HSZ.out
    have HAW : Hid (sprE L false cap ps out price = if argBad L (-1) ps then 2 else if outBad false out price then 2 else if capBad cap ps then 140 else if out + sumN ps = 1000000 then 0 else 141) := show _ = _ from rfl
    have HOB : Hid (outBad false out price = (outB out 0 0 || outB price 0 1000000)) := show _ = _ from out_most_false out price
    obtain ⟨SE, hseq⟩ : ∃ SE, SE = sprE L false cap ps out price := ⟨_, rfl⟩
    rw [← hseq] at HAW
    have HSQ := Lib.hid hseq
    clear hseq
    go_wp2_with fail
    go_loopw [11] (fun i wr => ∃ k : Nat, k ≤ ps.length ∧ i = .int .i64 k ∧ Hid (argBad L (-1) ps = argBad L (prevC ps k) (ps.drop k)) ∧ Below w3.heap.size w3 wr) (fun i _ => ps.length - (intOf i).toNat)
    case atStart => exact ⟨0, Nat.zero_le _, rfl, rfl, Below.refl _ _⟩
    case round =>
      obtain ⟨k, hk, rfl, HAB, hB⟩ := hrel
      have hBw2 := below_trans hBw hB
      obtain ⟨s0, s1, s2⟩ := cells3 (HS3.out.below hB)
      by_cases hlt : k < ps.length
      · obtain ⟨a', c', hac, h0 | ⟨b, off, rfl, hb, hc⟩⟩ := HSV.out.below hBw2
        · omega
        simp only [Value.slice.injEq] at hac
        obtain ⟨rfl, _, rfl⟩ := hac
        have i1 : (0 : Int) ≤ (k : Int) := by omega
        have i2 : (k : Int) < (ps.length : Int) := by omega
        have hck := hc (k * 2) (by omega)
        rw [spanF_even ps k hlt] at hck
        have HD := Lib.hid (argBad_drop L (prevC ps k) ps k hlt)
        have HP1 : Hid (prevC ps (k + 1) = ps[k].1) := show _ = _ from prevC_succ hlt
        have HHS := Lib.hid (fun W (h : IntsAt W (.slice la L.length lc) L) => rhas_same _ L ps[k].1 W h (by omega))
        cases hcn : L.contains ps[k].1 with
        | false =>
          rw [hcn] at HHS
          have HSE : Hid (SE = 2) := show _ = _ from by rw [HAW.out, HAB.out, HD.out, hcn]; rfl
          clear hc
          have hIw := HI3.out.below hB
          go_wp2_with fail
          go_quiet ((go_at_call 168; exact qsame (HHS.out _ (hIw.below (below_drewN (Below.refl _ _) _)))))
          go_wp2_with fail
          go_ret
          exact ⟨ret_int (by rw [← HSQ.out, HSE.out]), below_trans hBw (below_drewN hB _)⟩
        | true =>
          rw [hcn] at HHS
          have hq0 : 0 ≤ ps[k].1 := (HR.out _ (by simpa using hcn)).1
          by_cases hk0 : k = 0
          · have HNX : Hid (argBad L (-1) ps = argBad L (prevC ps (k + 1)) (ps.drop (k + 1))) := show _ = _ from by
              have e1 : decide (ps[k].1 ≤ prevC ps k) = false := decide_eq_false (by
                have e0 : prevC ps k = -1 := by rw [hk0]; rfl
                rw [e0]; omega)
              rw [HAB.out, HD.out, hcn, e1, HP1.out]; rfl
            have hk1 : decide (0 < k) = false := decide_eq_false (by omega)
            have hk2 : ¬ (0 : Int) < (k : Int) := by omega
            clear hc hk0
            generalize ps[k].1 = q at *
            have hIw := HI3.out.below hB
            go_wp2_with fail
            go_quiet ((go_at_call 168; exact qsame (HHS.out _ (hIw.below (below_drewN (Below.refl _ _) _)))))
            go_wp2_with fail
            go_roundw
            case rel => exact ⟨k + 1, by omega, by go_num, HNX.out, below_drewN hB _⟩
            case measure => simp [intOf]; omega
          · obtain ⟨j, hj1, hj2⟩ : ∃ j, k ≤ j + 1 ∧ j + 1 ≤ k := ⟨k - 1, by omega, by omega⟩
            have hjl : j < ps.length := by omega
            have hcj := hc (j * 2) (by omega)
            rw [spanF_even ps j hjl] at hcj
            have HPJ : Hid (prevC ps k = ps[j].1) := show _ = _ from by
              obtain rfl : k = j + 1 := by omega
              exact prevC_succ hjl
            have ep : (k : Int) - 1 = (j : Int) := by omega
            have i3 : (0 : Int) ≤ (j : Int) := by omega
            have i4 : (j : Int) < (ps.length : Int) := by omega
            have hk1 : decide (0 < k) = true := decide_eq_true (by omega)
            have hk2 : (0 : Int) < (k : Int) := by omega
            have o1 := IntWalk.i64_in (j : Int) ⟨by omega, by omega⟩
            clear hc
            by_cases hle : ps[k].1 ≤ ps[j].1
            · have HSE : Hid (SE = 2) := show _ = _ from by
                have e1 : decide (ps[k].1 ≤ prevC ps k) = true := decide_eq_true (by rw [HPJ.out]; exact hle)
                rw [HAW.out, HAB.out, HD.out, hcn, e1]; rfl
              have hd : decide (ps[k].1 ≤ ps[j].1) = true := decide_eq_true hle
              clear HD HP1 HPJ HAB
              generalize ps[k].1 = q at *
              generalize ps[j].1 = p at *
              have hIw := HI3.out.below hB
              go_wp2_with fail
              go_quiet ((go_at_call 168; exact qsame (HHS.out _ (hIw.below (below_drewN (Below.refl _ _) _)))))
              go_wp2_with fail
              go_ret
              exact ⟨ret_int (by rw [← HSQ.out, HSE.out]), below_trans hBw (below_drewN hB _)⟩
            · have HNX : Hid (argBad L (-1) ps = argBad L (prevC ps (k + 1)) (ps.drop (k + 1))) := show _ = _ from by
                have e1 : decide (ps[k].1 ≤ prevC ps k) = false := decide_eq_false (by rw [HPJ.out]; exact hle)
                rw [HAB.out, HD.out, hcn, e1, HP1.out]; rfl
              have hd : decide (ps[k].1 ≤ ps[j].1) = false := decide_eq_false hle
              clear HD HP1 HPJ HAB
              generalize ps[k].1 = q at *
              generalize ps[j].1 = p at *
              have hIw := HI3.out.below hB
              go_wp2_with fail
              go_quiet ((go_at_call 168; exact qsame (HHS.out _ (hIw.below (below_drewN (Below.refl _ _) _)))))
              go_wp2_with fail
              go_roundw
              case rel => exact ⟨k + 1, by omega, by go_num, HNX.out, below_drewN hB _⟩
              case measure => simp [intOf]; omega
      · obtain rfl : k = ps.length := by omega
        have hab : argBad L (-1) ps = false := by rw [HAB.out, List.drop_length]; rfl
        have HAB2 := Lib.hid hab
        have HPL : Hid (ps.length ≤ 400) := show _ ≤ _ from by
          obtain ⟨a1, a2⟩ := (argBad_false ps (-1)).1 hab
          have h1 : (ps.map Prod.fst).Nodup := by rw [List.nodup_iff_pairwise_ne, List.pairwise_map]; exact a2.imp (fun h => by omega)
          have h2 := nodup_len h1 (L' := L) (fun c hc => by
            obtain ⟨p, hp, rfl⟩ := List.mem_map.1 hc
            exact (a1 p hp).1)
          rw [List.length_map] at h2
          omega
        clear hab HAB
        cases ho : outB out 0 0 with
        | true =>
          have HSE : Hid (SE = 2) := show _ = _ from by rw [HAW.out, HAB2.out, HOB.out, ho]; rfl
          go_wp2_with ((go_at_call 69; refine (in_any _ _ _ _).mono ?_; rintro e w' ⟨rfl, rfl⟩; rw [ho]))
          go_ret
          exact ⟨ret_int (by rw [← HSQ.out, HSE.out]), hBw2⟩
        | false =>
          cases hp : outB price 0 1000000 with
          | true =>
            have HSE : Hid (SE = 2) := show _ = _ from by rw [HAW.out, HAB2.out, HOB.out, ho, hp]; rfl
            go_wp2_with ((go_at_call 69; refine (in_any _ _ _ _).mono ?_; rintro e w' ⟨rfl, rfl⟩; (first | rw [ho] | rw [hp])))
            go_ret
            exact ⟨ret_int (by rw [← HSQ.out, HSE.out]), hBw2⟩
          | false =>
            have HSE : Hid (SE = if capBad cap ps then 140 else if out + sumN ps = 1000000 then 0 else 141) := show _ = _ from by rw [HAW.out, HAB2.out, HOB.out, ho, hp]; rfl
            have hpl4 : ps.length ≤ 400 := HPL.out
            obtain ⟨b1, b2⟩ := outB_false.1 ho
            have HW4 := Lib.hid (HW3.out.below hB)
            have HS4 := Lib.hid (HS3.out.below hB)
            clear HAW HOB HAB2 HPL
            go_wp2_with ((go_at_call 69; refine (in_any _ _ _ _).mono ?_; rintro e w' ⟨rfl, rfl⟩; (first | rw [ho] | rw [hp])))
            clear ho hp
            obtain ⟨wa, rfl⟩ : ∃ wa : World, wa = wr := ⟨_, rfl⟩
            clear s0 s1 s2
            go_loopw [12, 13] (fun sm i wr => ∃ (k : Nat) (s : Int), k ≤ ps.length ∧ i = .int .i64 k ∧ sm = .int .i64 s ∧ 0 ≤ s ∧ s ≤ 1000000 + k * 1000000 ∧ Hid (s = out + sumN (ps.take k)) ∧ Hid (capBad cap ps = capBad cap (ps.drop k)) ∧ Below wa.heap.size wa wr) (fun _ i _ => ps.length - (intOf i).toNat)
            case atStart => exact ⟨0, out, Nat.zero_le _, rfl, rfl, b1, by omega, by show _ = _; simp [sumN], rfl, Below.refl _ _⟩
            case round =>
              have hBw5 := hBw2
              clear hBw2 hB hk hlt
              obtain ⟨k, s, hk, rfl, rfl, hs0, hs1, HSM, HCB, hB⟩ := hrel
              have hBw2 := below_trans hBw5 hB
              obtain ⟨l0, l1⟩ := cells2 (HW4.out.below hB)
              obtain ⟨s0, s1, s2⟩ := cells3 (HS4.out.below hB)
              by_cases hlt : k < ps.length
              · obtain ⟨a', c', hac, h0 | ⟨b, off, rfl, hb, hc⟩⟩ := HSV.out.below hBw2
                · omega
                simp only [Value.slice.injEq] at hac
                obtain ⟨rfl, _, rfl⟩ := hac
                have i1 : (0 : Int) ≤ (k : Int) := by omega
                have i2 : (k : Int) < (ps.length : Int) := by omega
                have hck1 := hc (k * 2 + 1) (by omega)
                rw [spanF_odd ps k hlt, ← Nat.add_assoc] at hck1
                have HD := Lib.hid (capBad_drop cap ps k hlt)
                have HSN := Lib.hid (sumN_take ps k hlt)
                generalize ps[k].2 = q2 at *
                clear hc
                cases hq : outB q2 1 cap with
                | true =>
                  have HS2 : Hid (SE = 140) := show _ = _ from by rw [HSE.out, HCB.out, HD.out, hq]; rfl
                  have HQ := Lib.hid hq
                  clear hq
                  go_wp2_with fail
                  go_quiet ((go_at_call 69; exact qsame (by have h := in_any q2 1 cap; rw [HQ.out] at h; exact h _)))
                  go_wp2_with fail
                  go_ret
                  exact ⟨ret_int (by rw [← HSQ.out, HS2.out]), below_drewN hBw2 _⟩
                | false =>
                  have HQ := Lib.hid hq
                  obtain ⟨q20, q21⟩ := outB_false.1 hq
                  clear hq
                  have o1 := IntWalk.i64_in (s + q2) ⟨by omega, by omega⟩
                  go_wp2_with fail
                  go_quiet ((go_at_call 69; exact qsame (by have h := in_any q2 1 cap; rw [HQ.out] at h; exact h _)))
                  go_wp2_with fail
                  go_roundw
                  case rel => exact ⟨k + 1, s + q2, by omega, by go_num, rfl, by omega, by omega, by show _ = _; rw [HSN.out, HSM.out]; omega, by show _ = _; rw [HCB.out, HD.out, HQ.out]; rfl, below_drewN hB _⟩
                  case measure => simp [intOf]; omega
              · obtain rfl : k = ps.length := by omega
                have hcb : capBad cap ps = false := by rw [HCB.out]; simp [capBad]
                have HS2 : Hid (SE = if s = 1000000 then 0 else 141) := show _ = _ from by rw [HSE.out, hcb, HSM.out, List.take_length]; rfl
                clear hcb HCB HSE HSM
                by_cases hsum : s = 1000000
                · have HS3 : Hid (SE = 0) := show _ = _ from by rw [HS2.out, if_pos hsum]
                  subst hsum
                  go_wp2_with fail
                  go_ret
                  exact ⟨ret_int (by rw [← HSQ.out, HS3.out]), hBw2⟩
                · have HS3 : Hid (SE = 141) := show _ = _ from by rw [HS2.out, if_neg hsum]
                  have hs' : (s != 1000000) = true := by simpa using hsum
                  clear hsum
                  go_wp2_with fail
                  go_ret
                  exact ⟨ret_int (by rw [← HSQ.out, HS3.out]), hBw2⟩
  · go_wp2_with fail
    refine (HRO.out _).mono ?_
    rintro e w3 ⟨rfl, hb3⟩
    have HW3 := Lib.hid (hW1.below hb3)
    have HS3 := Lib.hid (hS1.below hb3)
    have HI3 := Lib.hid (HI.out.below hb3)
    have hBw := below_trans hB1 hb3
    have HSZ : Hid (w.heap.size + 4 ≤ w3.heap.size) := show _ ≤ _ from by have := hb3.size; omega
    clear hM1 hA1 hW1 hS1 hB1 hz1 hb3 m0 m1 m2 m3 m4 m5 x0 x1 x2 x3
    have hsl : w.heap.size + 4 ≤ w3.heap.size := HSZ.out
    have HAW : Hid (sprE L true cap ps out price = if argBad L (-1) ps then 2 else if outBad true out price then 2 else if capBad cap ps then 140 else if out + sumN ps = 1000000 then 0 else 141) := show _ = _ from rfl
    have HOB : Hid (outBad true out price = (outB out 0 1000000 || outB price 0 1000000)) := show _ = _ from out_most_true out price
    obtain ⟨SE, hseq⟩ : ∃ SE, SE = sprE L true cap ps out price := ⟨_, rfl⟩
    rw [← hseq] at HAW
    have HSQ := Lib.hid hseq
    clear hseq
    go_wp2_with fail
    go_loopw [11] (fun i wr => ∃ k : Nat, k ≤ ps.length ∧ i = .int .i64 k ∧ Hid (argBad L (-1) ps = argBad L (prevC ps k) (ps.drop k)) ∧ Below w3.heap.size w3 wr) (fun i _ => ps.length - (intOf i).toNat)
    case atStart => exact ⟨0, Nat.zero_le _, rfl, rfl, Below.refl _ _⟩
    case round =>
      obtain ⟨k, hk, rfl, HAB, hB⟩ := hrel
      have hBw2 := below_trans hBw hB
      obtain ⟨s0, s1, s2⟩ := cells3 (HS3.out.below hB)
      by_cases hlt : k < ps.length
      · obtain ⟨a', c', hac, h0 | ⟨b, off, rfl, hb, hc⟩⟩ := HSV.out.below hBw2
        · omega
        simp only [Value.slice.injEq] at hac
        obtain ⟨rfl, _, rfl⟩ := hac
        have i1 : (0 : Int) ≤ (k : Int) := by omega
        have i2 : (k : Int) < (ps.length : Int) := by omega
        have hck := hc (k * 2) (by omega)
        rw [spanF_even ps k hlt] at hck
        have HD := Lib.hid (argBad_drop L (prevC ps k) ps k hlt)
        have HP1 : Hid (prevC ps (k + 1) = ps[k].1) := show _ = _ from prevC_succ hlt
        have HHS := Lib.hid (fun W (h : IntsAt W (.slice la L.length lc) L) => rhas_same _ L ps[k].1 W h (by omega))
        cases hcn : L.contains ps[k].1 with
        | false =>
          rw [hcn] at HHS
          have HSE : Hid (SE = 2) := show _ = _ from by rw [HAW.out, HAB.out, HD.out, hcn]; rfl
          clear hc
          have hIw := HI3.out.below hB
          go_wp2_with fail
          go_quiet ((go_at_call 168; exact qsame (HHS.out _ (hIw.below (below_drewN (Below.refl _ _) _)))))
          go_wp2_with fail
          go_ret
          exact ⟨ret_int (by rw [← HSQ.out, HSE.out]), below_trans hBw (below_drewN hB _)⟩
        | true =>
          rw [hcn] at HHS
          have hq0 : 0 ≤ ps[k].1 := (HR.out _ (by simpa using hcn)).1
          by_cases hk0 : k = 0
          · have HNX : Hid (argBad L (-1) ps = argBad L (prevC ps (k + 1)) (ps.drop (k + 1))) := show _ = _ from by
              have e1 : decide (ps[k].1 ≤ prevC ps k) = false := decide_eq_false (by
                have e0 : prevC ps k = -1 := by rw [hk0]; rfl
                rw [e0]; omega)
              rw [HAB.out, HD.out, hcn, e1, HP1.out]; rfl
            have hk1 : decide (0 < k) = false := decide_eq_false (by omega)
            have hk2 : ¬ (0 : Int) < (k : Int) := by omega
            clear hc hk0
            generalize ps[k].1 = q at *
            have hIw := HI3.out.below hB
            go_wp2_with fail
            go_quiet ((go_at_call 168; exact qsame (HHS.out _ (hIw.below (below_drewN (Below.refl _ _) _)))))
            go_wp2_with fail
            go_roundw
            case rel => exact ⟨k + 1, by omega, by go_num, HNX.out, below_drewN hB _⟩
            case measure => simp [intOf]; omega
          · obtain ⟨j, hj1, hj2⟩ : ∃ j, k ≤ j + 1 ∧ j + 1 ≤ k := ⟨k - 1, by omega, by omega⟩
            have hjl : j < ps.length := by omega
            have hcj := hc (j * 2) (by omega)
            rw [spanF_even ps j hjl] at hcj
            have HPJ : Hid (prevC ps k = ps[j].1) := show _ = _ from by
              obtain rfl : k = j + 1 := by omega
              exact prevC_succ hjl
            have ep : (k : Int) - 1 = (j : Int) := by omega
            have i3 : (0 : Int) ≤ (j : Int) := by omega
            have i4 : (j : Int) < (ps.length : Int) := by omega
            have hk1 : decide (0 < k) = true := decide_eq_true (by omega)
            have hk2 : (0 : Int) < (k : Int) := by omega
            have o1 := IntWalk.i64_in (j : Int) ⟨by omega, by omega⟩
            clear hc
            by_cases hle : ps[k].1 ≤ ps[j].1
            · have HSE : Hid (SE = 2) := show _ = _ from by
                have e1 : decide (ps[k].1 ≤ prevC ps k) = true := decide_eq_true (by rw [HPJ.out]; exact hle)
                rw [HAW.out, HAB.out, HD.out, hcn, e1]; rfl
              have hd : decide (ps[k].1 ≤ ps[j].1) = true := decide_eq_true hle
              clear HD HP1 HPJ HAB
              generalize ps[k].1 = q at *
              generalize ps[j].1 = p at *
              have hIw := HI3.out.below hB
              go_wp2_with fail
              go_quiet ((go_at_call 168; exact qsame (HHS.out _ (hIw.below (below_drewN (Below.refl _ _) _)))))
              go_wp2_with fail
              go_ret
              exact ⟨ret_int (by rw [← HSQ.out, HSE.out]), below_trans hBw (below_drewN hB _)⟩
            · have HNX : Hid (argBad L (-1) ps = argBad L (prevC ps (k + 1)) (ps.drop (k + 1))) := show _ = _ from by
                have e1 : decide (ps[k].1 ≤ prevC ps k) = false := decide_eq_false (by rw [HPJ.out]; exact hle)
                rw [HAB.out, HD.out, hcn, e1, HP1.out]; rfl
              have hd : decide (ps[k].1 ≤ ps[j].1) = false := decide_eq_false hle
              clear HD HP1 HPJ HAB
              generalize ps[k].1 = q at *
              generalize ps[j].1 = p at *
              have hIw := HI3.out.below hB
              go_wp2_with fail
              go_quiet ((go_at_call 168; exact qsame (HHS.out _ (hIw.below (below_drewN (Below.refl _ _) _)))))
              go_wp2_with fail
              go_roundw
              case rel => exact ⟨k + 1, by omega, by go_num, HNX.out, below_drewN hB _⟩
              case measure => simp [intOf]; omega
      · obtain rfl : k = ps.length := by omega
        have hab : argBad L (-1) ps = false := by rw [HAB.out, List.drop_length]; rfl
        have HAB2 := Lib.hid hab
        have HPL : Hid (ps.length ≤ 400) := show _ ≤ _ from by
          obtain ⟨a1, a2⟩ := (argBad_false ps (-1)).1 hab
          have h1 : (ps.map Prod.fst).Nodup := by rw [List.nodup_iff_pairwise_ne, List.pairwise_map]; exact a2.imp (fun h => by omega)
          have h2 := nodup_len h1 (L' := L) (fun c hc => by
            obtain ⟨p, hp, rfl⟩ := List.mem_map.1 hc
            exact (a1 p hp).1)
          rw [List.length_map] at h2
          omega
        clear hab HAB
        cases ho : outB out 0 1000000 with
        | true =>
          have HSE : Hid (SE = 2) := show _ = _ from by rw [HAW.out, HAB2.out, HOB.out, ho]; rfl
          go_wp2_with ((go_at_call 69; refine (in_any _ _ _ _).mono ?_; rintro e w' ⟨rfl, rfl⟩; rw [ho]))
          go_ret
          exact ⟨ret_int (by rw [← HSQ.out, HSE.out]), hBw2⟩
        | false =>
          cases hp : outB price 0 1000000 with
          | true =>
            have HSE : Hid (SE = 2) := show _ = _ from by rw [HAW.out, HAB2.out, HOB.out, ho, hp]; rfl
            go_wp2_with ((go_at_call 69; refine (in_any _ _ _ _).mono ?_; rintro e w' ⟨rfl, rfl⟩; (first | rw [ho] | rw [hp])))
            go_ret
            exact ⟨ret_int (by rw [← HSQ.out, HSE.out]), hBw2⟩
          | false =>
            have HSE : Hid (SE = if capBad cap ps then 140 else if out + sumN ps = 1000000 then 0 else 141) := show _ = _ from by rw [HAW.out, HAB2.out, HOB.out, ho, hp]; rfl
            have hpl4 : ps.length ≤ 400 := HPL.out
            obtain ⟨b1, b2⟩ := outB_false.1 ho
            have HW4 := Lib.hid (HW3.out.below hB)
            have HS4 := Lib.hid (HS3.out.below hB)
            clear HAW HOB HAB2 HPL
            go_wp2_with ((go_at_call 69; refine (in_any _ _ _ _).mono ?_; rintro e w' ⟨rfl, rfl⟩; (first | rw [ho] | rw [hp])))
            clear ho hp
            obtain ⟨wa, rfl⟩ : ∃ wa : World, wa = wr := ⟨_, rfl⟩
            clear s0 s1 s2
            go_loopw [12, 13] (fun sm i wr => ∃ (k : Nat) (s : Int), k ≤ ps.length ∧ i = .int .i64 k ∧ sm = .int .i64 s ∧ 0 ≤ s ∧ s ≤ 1000000 + k * 1000000 ∧ Hid (s = out + sumN (ps.take k)) ∧ Hid (capBad cap ps = capBad cap (ps.drop k)) ∧ Below wa.heap.size wa wr) (fun _ i _ => ps.length - (intOf i).toNat)
            case atStart => exact ⟨0, out, Nat.zero_le _, rfl, rfl, b1, by omega, by show _ = _; simp [sumN], rfl, Below.refl _ _⟩
            case round =>
              have hBw5 := hBw2
              clear hBw2 hB hk hlt
              obtain ⟨k, s, hk, rfl, rfl, hs0, hs1, HSM, HCB, hB⟩ := hrel
              have hBw2 := below_trans hBw5 hB
              obtain ⟨l0, l1⟩ := cells2 (HW4.out.below hB)
              obtain ⟨s0, s1, s2⟩ := cells3 (HS4.out.below hB)
              by_cases hlt : k < ps.length
              · obtain ⟨a', c', hac, h0 | ⟨b, off, rfl, hb, hc⟩⟩ := HSV.out.below hBw2
                · omega
                simp only [Value.slice.injEq] at hac
                obtain ⟨rfl, _, rfl⟩ := hac
                have i1 : (0 : Int) ≤ (k : Int) := by omega
                have i2 : (k : Int) < (ps.length : Int) := by omega
                have hck1 := hc (k * 2 + 1) (by omega)
                rw [spanF_odd ps k hlt, ← Nat.add_assoc] at hck1
                have HD := Lib.hid (capBad_drop cap ps k hlt)
                have HSN := Lib.hid (sumN_take ps k hlt)
                generalize ps[k].2 = q2 at *
                clear hc
                cases hq : outB q2 1 cap with
                | true =>
                  have HS2 : Hid (SE = 140) := show _ = _ from by rw [HSE.out, HCB.out, HD.out, hq]; rfl
                  have HQ := Lib.hid hq
                  clear hq
                  go_wp2_with fail
                  go_quiet ((go_at_call 69; exact qsame (by have h := in_any q2 1 cap; rw [HQ.out] at h; exact h _)))
                  go_wp2_with fail
                  go_ret
                  exact ⟨ret_int (by rw [← HSQ.out, HS2.out]), below_drewN hBw2 _⟩
                | false =>
                  have HQ := Lib.hid hq
                  obtain ⟨q20, q21⟩ := outB_false.1 hq
                  clear hq
                  have o1 := IntWalk.i64_in (s + q2) ⟨by omega, by omega⟩
                  go_wp2_with fail
                  go_quiet ((go_at_call 69; exact qsame (by have h := in_any q2 1 cap; rw [HQ.out] at h; exact h _)))
                  go_wp2_with fail
                  go_roundw
                  case rel => exact ⟨k + 1, s + q2, by omega, by go_num, rfl, by omega, by omega, by show _ = _; rw [HSN.out, HSM.out]; omega, by show _ = _; rw [HCB.out, HD.out, HQ.out]; rfl, below_drewN hB _⟩
                  case measure => simp [intOf]; omega
              · obtain rfl : k = ps.length := by omega
                have hcb : capBad cap ps = false := by rw [HCB.out]; simp [capBad]
                have HS2 : Hid (SE = if s = 1000000 then 0 else 141) := show _ = _ from by rw [HSE.out, hcb, HSM.out, List.take_length]; rfl
                clear hcb HCB HSE HSM
                by_cases hsum : s = 1000000
                · have HS3 : Hid (SE = 0) := show _ = _ from by rw [HS2.out, if_pos hsum]
                  subst hsum
                  go_wp2_with fail
                  go_ret
                  exact ⟨ret_int (by rw [← HSQ.out, HS3.out]), hBw2⟩
                · have HS3 : Hid (SE = 141) := show _ = _ from by rw [HS2.out, if_neg hsum]
                  have hs' : (s != 1000000) = true := by simpa using hsum
                  clear hsum
                  go_wp2_with fail
                  go_ret
                  exact ⟨ret_int (by rw [← HSQ.out, HS3.out]), hBw2⟩
end Go.Proofs.YtmglbegbijofkaaGreatDoor
namespace Go.Proofs.YtmglbegbijofkaaGreatDoor
open Go.RowKit Go.Shelf Go.Sort
set_option maxRecDepth 100000 in
set_option maxHeartbeats 4000000 in
theorem rprove_any (cx cy size cols rows : Int) (pv : Value) (zs : List Int) (xl xh yl yh lethal cap : Int) (sv : Value) (out price : Int) (ps : List (Int × Int)) (w : World) (hv : IntsAt w pv zs) (hs : SpansAt w sv ps) (hn : zs.length ≤ 9223372036854775806) (hpl : ps.length ≤ 9223372036854775806) :
    Calls Tryz.prog 53 #[.agg #[.int .i64 cx, .int .i64 cy, .int .i64 size, .int .i64 cols, .int .i64 rows, pv], .agg #[.int .i64 xl, .int .i64 xh, .int .i64 yl, .int .i64 yh], .agg #[.int .i64 lethal, .int .i64 cap], .agg #[sv, .int .i64 out, .int .i64 price]] w fun e w' =>
      NumErr (prvN zs (askE cx cy size cols rows zs xl xh yl yh lethal cap) cap (cellsL cx cy size cols rows xl xh yl yh) (cellsM cx cy size cols rows xl xh yl yh) ps out price) (prvE zs (askE cx cy size cols rows zs xl xh yl yh lethal cap) cap (cellsL cx cy size cols rows xl xh yl yh) (cellsM cx cy size cols rows xl xh yl yh) ps out price) e ∧ Below w.heap.size w w' := by
  obtain ⟨pa, pc, rfl, hx⟩ := id hv
  clear hx
  obtain ⟨sa, sc, rfl, hx⟩ := id hs
  clear hx
  have HV := Lib.hid hv
  have HSV := Lib.hid hs
  have HA := Lib.hid (fun W (hW : IntsAt W (.slice pa zs.length pc) zs) => rasked_any cx cy size cols rows _ zs xl xh yl yh lethal cap W hW hn)
  have HBAD : Hid (∀ k w', prvE zs (askE cx cy size cols rows zs xl xh yl yh lethal cap) cap (cellsL cx cy size cols rows xl xh yl yh) (cellsM cx cy size cols rows xl xh yl yh) ps out price = k → ¬ k = 0 → Below w.heap.size w w' → _) := show ∀ _ _, _ from fun k w' h h2 (h3 : Below w.heap.size w w') => And.intro (numErr_bad h h2) h3
  by_cases hask : askE cx cy size cols rows zs xl xh yl yh lethal cap = 0
  · have HSP := Lib.hid (fun W (hW : IntsAt W (.slice pa zs.length pc) zs) (h2 : SpansAt W (.slice sa ps.length sc) ps) => rspread_any cx cy size cols rows _ zs xl xh yl yh lethal cap _ out price ps W hW h2 hn hpl hask)
    have k := ask_ok hask
    obtain ⟨⟨u1, u2⟩, ⟨u3, u4⟩, ⟨u5, u6⟩, ⟨u7, u8⟩, u9, u10⟩ := mapB_false.1 k.mapb
    obtain ⟨v9, v10⟩ := outB_false.1 k.capb
    have HCK := Lib.hid k.cells
    have hn4 := k.cells.n4
    have hL4 := k.cells.len
    have HRC := Lib.hid (fun W (hW : IntsAt W (.slice pa zs.length pc) zs) => rcells_any cx cy size cols rows _ zs xl xh yl yh W hW u1 u2 u3 u4 u5 u6 u7 u8 hn4)
    unfold RCellsPost at HRC
    rw [← cellsL_fl hask] at HRC
    rw [hask] at HA HBAD
    rw [hask]
    clear k u1 u2 u3 u4 u5 u6 u7 u8 u9 u10 hask hv hs
    generalize cellsL cx cy size cols rows xl xh yl yh = L at *
    generalize cellsM cx cy size cols rows xl xh yl yh = more at *
    have HPV : Hid (prvE zs 0 cap L more ps out price = if sprE L more cap ps out price ≠ 0 then sprE L more cap ps out price else if ppl zs ps = bnd zs cap L price then 0 else 142) := show _ = _ from by unfold prvE; rw [if_neg (by simp)]
    have HPN : Hid (prvE zs 0 cap L more ps out price = 0 → prvN zs 0 cap L more ps out price = ppl zs ps) := show _ → _ from fun h => if_pos h
    have HOKK : Hid (∀ w', prvE zs 0 cap L more ps out price = 0 → Below w.heap.size w w' → NumErr (prvN zs 0 cap L more ps out price) (prvE zs 0 cap L more ps out price) (.returned (.tuple #[.int .i64 (ppl zs ps), .int .i64 0])) ∧ Below w.heap.size w w') := show ∀ _, _ from fun w' h h3 => ⟨by unfold NumErr; rw [h, HPN.out h], h3⟩
    clear HPN
    generalize prvE zs 0 cap L more ps out price = PE at *
    generalize prvN zs 0 cap L more ps out price = PN at *
    by_cases hsp : sprE L more cap ps out price = 0
    · have HOKS := Lib.hid (sprE_zero.1 hsp)
      have hpl4 : ps.length ≤ 400 := by
        have hf := spr_feas v9 HOKS.out
        have h2 := nodup_len hf.nodup hf.sub
        rw [List.length_map] at h2
        omega
      have HPA : Hid (PartsOK zs ps) := show PartsOK zs ps from fun p hp => by
        have h1 := HCK.out.r p.1 (HOKS.out.cell p hp).1
        have h2 := HOKS.out.part p hp
        exact ⟨h1.1, h1.2, by omega, by omega⟩
      have HPE := Lib.hid (fun W (h : IntsAt W (.slice pa zs.length pc) zs) (h2 : SpansAt W (.slice sa ps.length sc) ps) => rpeople_any cx cy size cols rows _ _ out price zs ps W h h2 HCK.out.z HPA.out (by omega))
      have HBN := Lib.hid (fun W lv (h : IntsAt W (.slice pa zs.length pc) zs) (h2 : IntsAt W lv L) => rbound_any cx cy size cols rows _ lv zs L cap price W h h2 HCK.out.z HCK.out.r hL4 hn4 v9 v10 HOKS.out.p0 HOKS.out.p1)
      have HPV2 : Hid (PE = if ppl zs ps = bnd zs cap L price then 0 else 142) := show _ = _ from by rw [HPV.out, if_neg (by simpa using hsp)]
      rw [hsp] at HSP
      clear hsp HPV
      generalize ppl zs ps = pp at *
      generalize bnd zs cap L price = bb at *
      go_enter Tryz.func53, Tryz.ntmps53
      go_wp2_with fail
      obtain ⟨hM0, hA0, hW0, hS0, hz0, hB0⟩ := alloc4 w #[.int .i64 cx, .int .i64 cy, .int .i64 size, .int .i64 cols, .int .i64 rows, .slice pa zs.length pc] #[.int .i64 xl, .int .i64 xh, .int .i64 yl, .int .i64 yh] #[.int .i64 lethal, .int .i64 cap] #[.slice sa ps.length sc, .int .i64 out, .int .i64 price] 42 25 44 47
      generalize (((w.alloc (.cells #[.int .i64 cx, .int .i64 cy, .int .i64 size, .int .i64 cols, .int .i64 rows, .slice pa zs.length pc] 42)).alloc (.cells #[.int .i64 xl, .int .i64 xh, .int .i64 yl, .int .i64 yh] 25)).alloc (.cells #[.int .i64 lethal, .int .i64 cap] 44)).alloc (.cells #[.slice sa ps.length sc, .int .i64 out, .int .i64 price] 47) = W0 at *
      clear hz0
      refine (HA.out W0 (HV.out.below hB0)).mono ?_
      rintro e w1 ⟨rfl, hb1⟩
      have hM := hM0.below hb1
      have hX := hA0.below hb1
      have hW := hW0.below hb1
      have hS := hS0.below hb1
      have hB := below_trans hB0 hb1
      clear hM0 hA0 hW0 hS0 hB0 hb1
      obtain ⟨m0, m1, m2, m3, m4, m5⟩ := cells6 hM
      obtain ⟨x0, x1, x2, x3⟩ := cells4 hX
      obtain ⟨l0, l1⟩ := cells2 hW
      obtain ⟨s0, s1, s2⟩ := cells3 hS
      go_wp2_with fail
      refine (HSP.out _ (HV.out.below hB) (HSV.out.below hB)).mono ?_
      rintro e w2 ⟨rfl, hb2⟩
      have hM := hM.below hb2
      have hX := hX.below hb2
      have hW := hW.below hb2
      have hS := hS.below hb2
      have hB := below_trans hB hb2
      clear m0 m1 m2 m3 m4 m5 x0 x1 x2 x3 l0 l1 s0 s1 s2
      obtain ⟨m0, m1, m2, m3, m4, m5⟩ := cells6 hM
      obtain ⟨x0, x1, x2, x3⟩ := cells4 hX
      obtain ⟨l0, l1⟩ := cells2 hW
      obtain ⟨s0, s1, s2⟩ := cells3 hS
      go_wp2_with fail
      refine (HPE.out _ (HV.out.below hB) (HSV.out.below hB)).mono ?_
      rintro e w3 ⟨rfl, hb3⟩
      have hM := hM.below hb3
      have hX := hX.below hb3
      have hW := hW.below hb3
      have hS := hS.below hb3
      have hB := below_trans hB hb3
      clear m0 m1 m2 m3 m4 m5 x0 x1 x2 x3 l0 l1 s0 s1 s2
      obtain ⟨m0, m1, m2, m3, m4, m5⟩ := cells6 hM
      obtain ⟨x0, x1, x2, x3⟩ := cells4 hX
      obtain ⟨l0, l1⟩ := cells2 hW
      obtain ⟨s0, s1, s2⟩ := cells3 hS
      have hBd := hB.drew
      by_cases heq : pp = bb
      · have HPE0 : Hid (PE = 0) := show _ = _ from by rw [HPV2.out, if_pos heq]
        subst heq
        clear HPV2 hM hX hW hS
        go_wp2_with fail
        go_region_held3 (fun w' => w'.cell? ⟨w.heap.size, 0, none⟩ = some (.int .i64 cx) ∧ w'.cell? ⟨w.heap.size, 1, none⟩ = some (.int .i64 cy) ∧ w'.cell? ⟨w.heap.size, 2, none⟩ = some (.int .i64 size) ∧ w'.cell? ⟨w.heap.size, 3, none⟩ = some (.int .i64 cols) ∧ w'.cell? ⟨w.heap.size, 4, none⟩ = some (.int .i64 rows) ∧ w'.cell? ⟨w.heap.size, 5, none⟩ = some (.slice pa zs.length pc) ∧ w'.cell? ⟨w.heap.size + 1, 0, none⟩ = some (.int .i64 xl) ∧ w'.cell? ⟨w.heap.size + 1, 1, none⟩ = some (.int .i64 xh) ∧ w'.cell? ⟨w.heap.size + 1, 2, none⟩ = some (.int .i64 yl) ∧ w'.cell? ⟨w.heap.size + 1, 3, none⟩ = some (.int .i64 yh) ∧ w'.cell? ⟨w.heap.size + 1 + 1, 1, none⟩ = some (.int .i64 cap) ∧ w'.cell? ⟨w.heap.size + 1 + 1 + 1, 2, none⟩ = some (.int .i64 price)) (first | (with_reducible exact ⟨m0, m1, m2, m3, m4, m5, x0, x1, x2, x3, l1, s2⟩) | go_keep) ((first | (go_at_call 104; refine (HRC.out _ (HV.out.below hBd)).mono ?_; rintro e w7 ⟨lv, rfl, hown, hbA⟩; have hI := ints_at_row hown; have m0 := below_cell hbA m0; have m1 := below_cell hbA m1; have m2 := below_cell hbA m2; have m3 := below_cell hbA m3; have m4 := below_cell hbA m4; have m5 := below_cell hbA m5; have x0 := below_cell hbA x0; have x1 := below_cell hbA x1; have x2 := below_cell hbA x2; have x3 := below_cell hbA x3; have l1 := below_cell hbA l1; have s2 := below_cell hbA s2; have hBd := below_trans hBd hbA) | (go_at_call 126; refine (HBN.out _ _ (HV.out.below hBd) hI).mono ?_; rintro e w8 ⟨rfl, hbA⟩; have m0 := below_cell hbA m0; have m1 := below_cell hbA m1; have m2 := below_cell hbA m2; have m3 := below_cell hbA m3; have m4 := below_cell hbA m4; have m5 := below_cell hbA m5; have x0 := below_cell hbA x0; have x1 := below_cell hbA x1; have x2 := below_cell hbA x2; have x3 := below_cell hbA x3; have l1 := below_cell hbA l1; have s2 := below_cell hbA s2; have hBd := below_trans hBd hbA)))
        all_goals
          go_wp2_with fail
          go_ret2
          exact HOKK.out _ HPE0.out hBd
      · have HPE0 : Hid (PE = 142) := show _ = _ from by rw [HPV2.out, if_neg heq]
        have hne : (pp != bb) = true := by simpa using heq
        clear HPV2 hM hX hW hS heq
        go_wp2_with fail
        go_region_held3 (fun w' => w'.cell? ⟨w.heap.size, 0, none⟩ = some (.int .i64 cx) ∧ w'.cell? ⟨w.heap.size, 1, none⟩ = some (.int .i64 cy) ∧ w'.cell? ⟨w.heap.size, 2, none⟩ = some (.int .i64 size) ∧ w'.cell? ⟨w.heap.size, 3, none⟩ = some (.int .i64 cols) ∧ w'.cell? ⟨w.heap.size, 4, none⟩ = some (.int .i64 rows) ∧ w'.cell? ⟨w.heap.size, 5, none⟩ = some (.slice pa zs.length pc) ∧ w'.cell? ⟨w.heap.size + 1, 0, none⟩ = some (.int .i64 xl) ∧ w'.cell? ⟨w.heap.size + 1, 1, none⟩ = some (.int .i64 xh) ∧ w'.cell? ⟨w.heap.size + 1, 2, none⟩ = some (.int .i64 yl) ∧ w'.cell? ⟨w.heap.size + 1, 3, none⟩ = some (.int .i64 yh) ∧ w'.cell? ⟨w.heap.size + 1 + 1, 1, none⟩ = some (.int .i64 cap) ∧ w'.cell? ⟨w.heap.size + 1 + 1 + 1, 2, none⟩ = some (.int .i64 price)) (first | (with_reducible exact ⟨m0, m1, m2, m3, m4, m5, x0, x1, x2, x3, l1, s2⟩) | go_keep) ((first | (go_at_call 104; refine (HRC.out _ (HV.out.below hBd)).mono ?_; rintro e w7 ⟨lv, rfl, hown, hbA⟩; have hI := ints_at_row hown; have m0 := below_cell hbA m0; have m1 := below_cell hbA m1; have m2 := below_cell hbA m2; have m3 := below_cell hbA m3; have m4 := below_cell hbA m4; have m5 := below_cell hbA m5; have x0 := below_cell hbA x0; have x1 := below_cell hbA x1; have x2 := below_cell hbA x2; have x3 := below_cell hbA x3; have l1 := below_cell hbA l1; have s2 := below_cell hbA s2; have hBd := below_trans hBd hbA) | (go_at_call 126; refine (HBN.out _ _ (HV.out.below hBd) hI).mono ?_; rintro e w8 ⟨rfl, hbA⟩; have m0 := below_cell hbA m0; have m1 := below_cell hbA m1; have m2 := below_cell hbA m2; have m3 := below_cell hbA m3; have m4 := below_cell hbA m4; have m5 := below_cell hbA m5; have x0 := below_cell hbA x0; have x1 := below_cell hbA x1; have x2 := below_cell hbA x2; have x3 := below_cell hbA x3; have l1 := below_cell hbA l1; have s2 := below_cell hbA s2; have hBd := below_trans hBd hbA)))
        all_goals
          go_wp2_with fail
          go_ret2
          exact HBAD.out 142 _ HPE0.out (by omega) hBd
    · have HPE0 : Hid (PE = sprE L more cap ps out price) := show _ = _ from by rw [HPV.out, if_pos hsp]
      have HN := Lib.hid hsp
      have hne : (sprE L more cap ps out price != 0) = true := by simpa using hsp
      clear hsp HPV
      generalize sprE L more cap ps out price = SE at *
      go_enter Tryz.func53, Tryz.ntmps53
      go_wp2_with fail
      obtain ⟨hM0, hA0, hW0, hS0, hz0, hB0⟩ := alloc4 w #[.int .i64 cx, .int .i64 cy, .int .i64 size, .int .i64 cols, .int .i64 rows, .slice pa zs.length pc] #[.int .i64 xl, .int .i64 xh, .int .i64 yl, .int .i64 yh] #[.int .i64 lethal, .int .i64 cap] #[.slice sa ps.length sc, .int .i64 out, .int .i64 price] 42 25 44 47
      generalize (((w.alloc (.cells #[.int .i64 cx, .int .i64 cy, .int .i64 size, .int .i64 cols, .int .i64 rows, .slice pa zs.length pc] 42)).alloc (.cells #[.int .i64 xl, .int .i64 xh, .int .i64 yl, .int .i64 yh] 25)).alloc (.cells #[.int .i64 lethal, .int .i64 cap] 44)).alloc (.cells #[.slice sa ps.length sc, .int .i64 out, .int .i64 price] 47) = W0 at *
      clear hz0
      refine (HA.out W0 (HV.out.below hB0)).mono ?_
      rintro e w1 ⟨rfl, hb1⟩
      have hM := hM0.below hb1
      have hX := hA0.below hb1
      have hW := hW0.below hb1
      have hS := hS0.below hb1
      have hB := below_trans hB0 hb1
      clear hM0 hA0 hW0 hS0 hB0 hb1
      obtain ⟨m0, m1, m2, m3, m4, m5⟩ := cells6 hM
      obtain ⟨x0, x1, x2, x3⟩ := cells4 hX
      obtain ⟨l0, l1⟩ := cells2 hW
      obtain ⟨s0, s1, s2⟩ := cells3 hS
      go_wp2_with fail
      refine (HSP.out _ (HV.out.below hB) (HSV.out.below hB)).mono ?_
      rintro e w2 ⟨rfl, hb2⟩
      clear m0 m1 m2 m3 m4 m5 x0 x1 x2 x3 l0 l1 s0 s1 s2
      go_wp2_with fail
      go_ret2
      exact HBAD.out SE _ HPE0.out HN.out (below_trans hB hb2)
  · have HPE0 : Hid (prvE zs (askE cx cy size cols rows zs xl xh yl yh lethal cap) cap (cellsL cx cy size cols rows xl xh yl yh) (cellsM cx cy size cols rows xl xh yl yh) ps out price = askE cx cy size cols rows zs xl xh yl yh lethal cap) := show _ = _ from if_pos hask
    have HN := Lib.hid hask
    have hne : (askE cx cy size cols rows zs xl xh yl yh lethal cap != 0) = true := by simpa using hask
    have heq : (askE cx cy size cols rows zs xl xh yl yh lethal cap == 0) = false := by simpa using hask
    clear hask hv hs
    generalize prvE zs (askE cx cy size cols rows zs xl xh yl yh lethal cap) cap (cellsL cx cy size cols rows xl xh yl yh) (cellsM cx cy size cols rows xl xh yl yh) ps out price = PE at *
    generalize prvN zs (askE cx cy size cols rows zs xl xh yl yh lethal cap) cap (cellsL cx cy size cols rows xl xh yl yh) (cellsM cx cy size cols rows xl xh yl yh) ps out price = PN at *
    generalize askE cx cy size cols rows zs xl xh yl yh lethal cap = ak at *
    go_enter Tryz.func53, Tryz.ntmps53
    go_wp2_with fail
    obtain ⟨hM0, hA0, hW0, hS0, hz0, hB0⟩ := alloc4 w #[.int .i64 cx, .int .i64 cy, .int .i64 size, .int .i64 cols, .int .i64 rows, .slice pa zs.length pc] #[.int .i64 xl, .int .i64 xh, .int .i64 yl, .int .i64 yh] #[.int .i64 lethal, .int .i64 cap] #[.slice sa ps.length sc, .int .i64 out, .int .i64 price] 42 25 44 47
    generalize (((w.alloc (.cells #[.int .i64 cx, .int .i64 cy, .int .i64 size, .int .i64 cols, .int .i64 rows, .slice pa zs.length pc] 42)).alloc (.cells #[.int .i64 xl, .int .i64 xh, .int .i64 yl, .int .i64 yh] 25)).alloc (.cells #[.int .i64 lethal, .int .i64 cap] 44)).alloc (.cells #[.slice sa ps.length sc, .int .i64 out, .int .i64 price] 47) = W0 at *
    clear hz0
    refine (HA.out W0 (HV.out.below hB0)).mono ?_
    rintro e w1 ⟨rfl, hb1⟩
    clear hM0 hA0 hW0 hS0
    go_wp2_with fail
    go_ret2
    exact HBAD.out ak _ HPE0.out HN.out (below_trans hB0 hb1)
end Go.Proofs.YtmglbegbijofkaaGreatDoor
namespace Go.Proofs.YtmglbegbijofkaaGreatDoor
open Go.RowKit Go.Shelf Go.Sort
set_option maxRecDepth 100000 in
set_option maxHeartbeats 800000 in
theorem sameSpread_any (va vb : Value) (l : List (Int × Int)) (o p : Int) (w : World) (ha : SpansAt w va l) (hb : SpansAt w vb l) (hn : l.length ≤ 1000000) : Calls Tryz.prog 51 #[.agg #[va, .int .i64 o, .int .i64 p], .agg #[vb, .int .i64 o, .int .i64 p]] w fun e w' => e = .returned (.bool true) ∧ Below w.heap.size w w' := by
  obtain ⟨a1, c1, rfl, hr1⟩ := ha
  obtain ⟨a2, c2, rfl, hr2⟩ := hb
  go_enter Tryz.func51, Tryz.ntmps51
  go_wp2_with fail
  obtain ⟨hA, hC, hz, hB0⟩ := alloc2 w #[.slice a1 l.length c1, .int .i64 o, .int .i64 p] #[.slice a2 l.length c2, .int .i64 o, .int .i64 p] 47 47
  clear hz
  generalize (w.alloc (.cells #[.slice a1 l.length c1, .int .i64 o, .int .i64 p] 47)).alloc (.cells #[.slice a2 l.length c2, .int .i64 o, .int .i64 p] 47) = W0 at *
  obtain ⟨s0, s1, s2⟩ := cells3 hA
  obtain ⟨t0, t1, t2⟩ := cells3 hC
  go_wp2_with fail
  clear s0 s1 s2 t0 t1 t2
  go_loopw [5] (fun i wr => ∃ k : Nat, k ≤ l.length ∧ i = .int .i64 k ∧ Below W0.heap.size W0 wr) (fun i _ => l.length - (intOf i).toNat)
  case atStart => exact ⟨0, Nat.zero_le _, rfl, Below.refl _ _⟩
  case round =>
    obtain ⟨k, hk, rfl, hBW⟩ := hrel
    have hB := below_trans hB0 hBW
    obtain ⟨s0, s1, s2⟩ := cells3 (hA.below hBW)
    obtain ⟨t0, t1, t2⟩ := cells3 (hC.below hBW)
    by_cases hlt : k < l.length
    · rcases hr1 with h0 | ⟨b, off, rfl, hb, hc⟩
      · omega
      · rcases hr2 with h0 | ⟨b', off', rfl, hb', hc'⟩
        · omega
        · have e0 := hc (k * 2) (by omega)
          have e1 := hc (k * 2 + 1) (by omega)
          rw [spanF_even l k hlt] at e0
          rw [spanF_odd l k hlt, ← Nat.add_assoc] at e1
          have d0 := hc' (k * 2) (by omega)
          have d1 := hc' (k * 2 + 1) (by omega)
          rw [spanF_even l k hlt] at d0
          rw [spanF_odd l k hlt, ← Nat.add_assoc] at d1
          have e0 := (hB.cell (p := ⟨b, off + k * 2, none⟩) hb).trans e0
          have e1 := (hB.cell (p := ⟨b, off + k * 2 + 1, none⟩) hb).trans e1
          have d0 := (hB.cell (p := ⟨b', off' + k * 2, none⟩) hb').trans d0
          have d1 := (hB.cell (p := ⟨b', off' + k * 2 + 1, none⟩) hb').trans d1
          generalize l[k].1 = z1 at *
          generalize l[k].2 = z2 at *
          have i1 : (0 : Int) ≤ (k : Int) := by omega
          have i2 : (k : Int) < (l.length : Int) := by omega
          clear hc hc'
          go_wp2_with fail
          go_quiet (fail)
          go_wp2_with fail
          go_roundw
          case rel => exact ⟨k + 1, by omega, by go_num, below_drewN' hBW _⟩
          case measure => simp [intOf]; omega
    · obtain rfl : k = l.length := by omega
      go_wp2_with fail
      go_ret
      exact ⟨rfl, hB⟩
end Go.Proofs.YtmglbegbijofkaaGreatDoor
namespace Go.Proofs.YtmglbegbijofkaaGreatDoor
open Go.RowKit Go.Shelf Go.Sort
set_option maxRecDepth 100000 in
set_option maxHeartbeats 800000 in
theorem law15 (cx cy size cols rows : Int) (pv : Value) (zs : List Int) (xl xh yl yh lethal cap : Int) (sv : Value) (out price : Int) (ps : List (Int × Int)) (w : World) (hv : IntsAt w pv zs) (hs : SpansAt w sv ps) (hn : zs.length ≤ 9223372036854775806) (hpl : ps.length ≤ 9223372036854775806) (ht : Tab10 w) :
    Calls Tryz.prog 15 #[.agg #[.int .i64 cx, .int .i64 cy, .int .i64 size, .int .i64 cols, .int .i64 rows, pv], .agg #[.int .i64 xl, .int .i64 xh, .int .i64 yl, .int .i64 yh, .int .i64 lethal, .int .i64 cap, sv, .int .i64 out, .int .i64 price]] w fun e w' => e = .returned (.bool true) ∧ Below w.heap.size w w' := by
  obtain ⟨a, c, rfl, hx⟩ := id hv
  clear hx
  obtain ⟨a2, c2, rfl, hx⟩ := id hs
  clear hx
  have HV := Lib.hid hv
  have HS := Lib.hid hs
  have HT := Lib.hid ht
  clear hv hs ht
  have HM1 := Lib.hid (fun W (h : IntsAt W (.slice a zs.length c) zs) => most_any cx cy size cols rows _ zs xl xh yl yh lethal cap W h hn)
  have HM2 := Lib.hid (fun W (h : IntsAt W (.slice a zs.length c) zs) => rmost_any cx cy size cols rows _ zs xl xh yl yh lethal cap W h hn)
  have HP1 := Lib.hid (fun W (h : IntsAt W (.slice a zs.length c) zs) (h2 : SpansAt W (.slice a2 ps.length c2) ps) => prove_any52 cx cy size cols rows _ zs xl xh yl yh lethal cap _ out price ps W h h2 hn hpl)
  have HP2 := Lib.hid (fun W (h : IntsAt W (.slice a zs.length c) zs) (h2 : SpansAt W (.slice a2 ps.length c2) ps) => rprove_any cx cy size cols rows _ zs xl xh yl yh lethal cap _ out price ps W h h2 hn hpl)
  have hql : (mostQ zs (askE cx cy size cols rows zs xl xh yl yh lethal cap) cap (cellsL cx cy size cols rows xl xh yl yh) (cellsM cx cy size cols rows xl xh yl yh)).length ≤ 1000000 := mostQ_len (fun h => cells_ok h)
  unfold MostSpr at HM1 HM2
  unfold NumErr at HP1 HP2
  generalize mostQ zs (askE cx cy size cols rows zs xl xh yl yh lethal cap) cap (cellsL cx cy size cols rows xl xh yl yh) (cellsM cx cy size cols rows xl xh yl yh) = Q at *
  generalize mostO zs (askE cx cy size cols rows zs xl xh yl yh lethal cap) cap (cellsL cx cy size cols rows xl xh yl yh) (cellsM cx cy size cols rows xl xh yl yh) = O at *
  generalize mostP zs (askE cx cy size cols rows zs xl xh yl yh lethal cap) cap (cellsL cx cy size cols rows xl xh yl yh) (cellsM cx cy size cols rows xl xh yl yh) = P at *
  generalize mostN zs (askE cx cy size cols rows zs xl xh yl yh lethal cap) cap (cellsL cx cy size cols rows xl xh yl yh) (cellsM cx cy size cols rows xl xh yl yh) = N at *
  generalize mostE zs (askE cx cy size cols rows zs xl xh yl yh lethal cap) cap (cellsL cx cy size cols rows xl xh yl yh) (cellsM cx cy size cols rows xl xh yl yh) = E at *
  generalize prvN zs (askE cx cy size cols rows zs xl xh yl yh lethal cap) cap (cellsL cx cy size cols rows xl xh yl yh) (cellsM cx cy size cols rows xl xh yl yh) ps out price = PN at *
  generalize prvE zs (askE cx cy size cols rows zs xl xh yl yh lethal cap) cap (cellsL cx cy size cols rows xl xh yl yh) (cellsM cx cy size cols rows xl xh yl yh) ps out price = PE at *
  go_enter Tryz.func15, Tryz.ntmps15
  go_wp2_with fail
  obtain ⟨hM, hX, hz, hB⟩ := alloc2 w #[.int .i64 cx, .int .i64 cy, .int .i64 size, .int .i64 cols, .int .i64 rows, .slice a zs.length c] #[.int .i64 xl, .int .i64 xh, .int .i64 yl, .int .i64 yh, .int .i64 lethal, .int .i64 cap, .slice a2 ps.length c2, .int .i64 out, .int .i64 price] 42 49
  clear hz
  generalize (w.alloc (.cells #[.int .i64 cx, .int .i64 cy, .int .i64 size, .int .i64 cols, .int .i64 rows, .slice a zs.length c] 42)).alloc (.cells #[.int .i64 xl, .int .i64 xh, .int .i64 yl, .int .i64 yh, .int .i64 lethal, .int .i64 cap, .slice a2 ps.length c2, .int .i64 out, .int .i64 price] 49) = W0 at *
  refine (HM1.out _ (HV.out.below hB)).mono ?_
  rintro e w1 ⟨v1, rfl, hq1, hb1⟩
  have hM := hM.below hb1
  have hX := hX.below hb1
  have hB := below_trans hB hb1
  obtain ⟨m0, m1, m2, m3, m4, m5⟩ := cells6 hM
  obtain ⟨x0, x1, x2, x3, x4, x5, x6, x7, x8⟩ := cells9 hX
  have HQ1 := Lib.hid hq1
  clear hq1
  obtain ⟨va, vc, rfl, hx⟩ := id HQ1.out
  clear hx
  have hR := cellsNew w1 #[.slice va Q.length vc, .int .i64 O, .int .i64 P] 47
  have hbR : Below w1.heap.size w1 (w1.alloc (.cells #[.slice va Q.length vc, .int .i64 O, .int .i64 P] 47)) := balloc (Below.refl _ _) _
  have HQ2 := Lib.hid (HQ1.out.below hbR)
  clear m0 m1 m2 m3 m4 m5 x0 x1 x2 x3 x4 x5 x6 x7 x8 HQ1
  have hM := hM.below hbR
  have hX := hX.below hbR
  have hB := below_trans hB hbR
  obtain ⟨m0, m1, m2, m3, m4, m5⟩ := cells6 hM
  obtain ⟨x0, x1, x2, x3, x4, x5, x6, x7, x8⟩ := cells9 hX
  go_wp2_with fail
  generalize w1.alloc (.cells #[.slice va Q.length vc, .int .i64 O, .int .i64 P] 47) = W2 at *
  generalize w1.heap.size = rb at *
  refine (HM2.out _ (HV.out.below hB)).mono ?_
  rintro e w3 ⟨v3, rfl, hq3, hb3⟩
  have HQ3 := Lib.hid hq3
  obtain ⟨va3, vc3, rfl, hx⟩ := id hq3
  clear hx hq3
  clear m0 m1 m2 m3 m4 m5 x0 x1 x2 x3 x4 x5 x6 x7 x8
  have hR := hR.below hb3
  have HQ2 := Lib.hid (HQ2.out.below hb3)
  have hR3 := cellsNew w3 #[.slice va3 Q.length vc3, .int .i64 O, .int .i64 P] 47
  have hbR3 : Below w3.heap.size w3 (w3.alloc (.cells #[.slice va3 Q.length vc3, .int .i64 O, .int .i64 P] 47)) := balloc (Below.refl _ _) _
  have hb33 := below_trans hb3 hbR3
  have hR := hR.below hbR3
  have HQ2 := Lib.hid (HQ2.out.below hbR3)
  have HQ3 := Lib.hid (HQ3.out.below hbR3)
  have hM := hM.below hb33
  have hX := hX.below hb33
  have hB := below_trans hB hb33
  obtain ⟨m0, m1, m2, m3, m4, m5⟩ := cells6 hM
  obtain ⟨x0, x1, x2, x3, x4, x5, x6, x7, x8⟩ := cells9 hX
  obtain ⟨r0, r1, r2⟩ := cells3 hR
  obtain ⟨t0, t1, t2⟩ := cells3 hR3
  go_wp2_with fail
  generalize w3.alloc (.cells #[.slice va3 Q.length vc3, .int .i64 O, .int .i64 P] 47) = W4 at *
  refine (sameSpread_any _ _ Q O P _ HQ2.out HQ3.out hql).mono ?_
  rintro e w5 ⟨rfl, hb5⟩
  clear m0 m1 m2 m3 m4 m5 x0 x1 x2 x3 x4 x5 x6 x7 x8 r0 r1 r2 t0 t1 t2 hR hR3
  have hM := hM.below hb5
  have hX := hX.below hb5
  have hB := below_trans hB hb5
  obtain ⟨m0, m1, m2, m3, m4, m5⟩ := cells6 hM
  obtain ⟨x0, x1, x2, x3, x4, x5, x6, x7, x8⟩ := cells9 hX
  go_wp2_with fail
  refine (HP1.out _ (HV.out.below hB) (HS.out.below hB)).mono ?_
  rintro e w6 ⟨rfl, hb6⟩
  clear m0 m1 m2 m3 m4 m5 x0 x1 x2 x3 x4 x5 x6 x7 x8
  have hM := hM.below hb6
  have hX := hX.below hb6
  have hB := below_trans hB hb6
  obtain ⟨m0, m1, m2, m3, m4, m5⟩ := cells6 hM
  obtain ⟨x0, x1, x2, x3, x4, x5, x6, x7, x8⟩ := cells9 hX
  go_wp2_with fail
  refine (HP2.out _ (HV.out.below hB) (HS.out.below hB)).mono ?_
  rintro e w7 ⟨rfl, hb7⟩
  clear m0 m1 m2 m3 m4 m5 x0 x1 x2 x3 x4 x5 x6 x7 x8 hM hX
  have hB := below_trans hB hb7
  go_wp2_with fail
  refine (awake_true _ (HT.out.below hB)).mono ?_
  rintro e w8 ⟨rfl, hb8⟩
  go_wp2_with fail
  go_ret
  exact ⟨rfl, below_trans hB hb8⟩
end Go.Proofs.YtmglbegbijofkaaGreatDoor
