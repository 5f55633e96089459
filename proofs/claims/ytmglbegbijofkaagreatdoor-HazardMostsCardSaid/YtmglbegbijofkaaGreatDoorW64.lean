import Derived.Test.YtmglbegbijofkaaGreatDoorWM
set_option linter.unusedVariables false
set_option linter.unusedSimpArgs false
namespace Go.Proofs.YtmglbegbijofkaaGreatDoor
open Go.RowKit Go.Shelf Go.Sort
theorem bs_any (v : Value) (L : List Int) (x : Int) (w : World) (hv : IntsAt w v L) (hs : L.Pairwise (· < ·)) (hl : L.length ≤ 1000000) : Calls Tryz.prog 124 #[v, .int .i64 x] w fun e w' => ∃ n : Int, e = .returned (.tuple #[.int .i64 n, .bool (L.contains x)]) ∧ Below w.heap.size w w' := by
  obtain ⟨a, c, rfl, h0 | ⟨b, off, rfl, hb, hc⟩⟩ := hv
  · have : L = [] := List.eq_nil_of_length_eq_zero h0
    subst this
    exact (Tryz.slices_BinarySearch_int_empty a c x w).mono fun e w' ⟨h1, h2⟩ => ⟨0, by rw [h1]; rfl, by rw [h2]; exact Below.refl _ _⟩
  · have h := Tryz.slices_BinarySearch_int b off L.length c L x w (Nat.le_refl _) (by omega) (fun j hj => by have := hc j (by omega); unfold intF at this; rw [← List.getD_eq_getElem?_getD] at this; exact this) (by rw [List.take_length]; exact hs.imp (fun h => by omega))
    rw [List.take_length] at h
    exact h.mono fun e w' ⟨h1, q, h2⟩ => ⟨_, h1, by rw [h2]; exact below_drewN (Below.refl _ _) q⟩
def prvE (zs : List Int) (ask cap : Int) (L : List Int) (more : Bool) (ps : List (Int × Int)) (out price : Int) : Int := if ask ≠ 0 then ask else if sprE L more cap ps out price ≠ 0 then sprE L more cap ps out price else if ppl zs ps = bnd zs cap L price then 0 else 142
def prvN (zs : List Int) (ask cap : Int) (L : List Int) (more : Bool) (ps : List (Int × Int)) (out price : Int) : Int := if prvE zs ask cap L more ps out price = 0 then ppl zs ps else 0
def NumErr (n k : Int) (e : Ending) : Prop := e = .returned (.tuple #[.int .i64 n, .int .i64 k])
theorem numErr_bad {zs : List Int} {ask cap : Int} {L : List Int} {more : Bool} {ps : List (Int × Int)} {out price k : Int} (h : prvE zs ask cap L more ps out price = k) (hk : ¬ k = 0) : NumErr (prvN zs ask cap L more ps out price) (prvE zs ask cap L more ps out price) (.returned (.tuple #[.int .i64 0, .int .i64 k])) := by
  unfold NumErr prvN
  rw [h, if_neg hk]
theorem argBad_drop (L : List Int) (b : Int) (ps : List (Int × Int)) (k : Nat) (hk : k < ps.length) : argBad L b (ps.drop k) = (!L.contains ps[k].1 || decide (ps[k].1 ≤ b) || argBad L ps[k].1 (ps.drop (k + 1))) := by
  rw [List.drop_eq_getElem_cons hk]; rfl
theorem capBad_drop (cap : Int) (ps : List (Int × Int)) (k : Nat) (hk : k < ps.length) : capBad cap (ps.drop k) = (outB ps[k].2 1 cap || capBad cap (ps.drop (k + 1))) := by
  rw [List.drop_eq_getElem_cons hk]; rfl
theorem sumN_take (ps : List (Int × Int)) (k : Nat) (hk : k < ps.length) : sumN (ps.take (k + 1)) = sumN (ps.take k) + ps[k].2 := by
  rw [List.take_succ_eq_append_getElem hk, sumN_snoc]
set_option maxRecDepth 100000 in
set_option maxHeartbeats 4000000 in
theorem prove_any52 (cx cy size cols rows : Int) (pv : Value) (zs : List Int) (xl xh yl yh lethal cap : Int) (sv : Value) (out price : Int) (ps : List (Int × Int)) (w : World) (hv : IntsAt w pv zs) (hs : SpansAt w sv ps) (hn : zs.length ≤ 9223372036854775806) (hpl : ps.length ≤ 9223372036854775806) :
    Calls Tryz.prog 52 #[.agg #[.int .i64 cx, .int .i64 cy, .int .i64 size, .int .i64 cols, .int .i64 rows, pv], .agg #[.int .i64 xl, .int .i64 xh, .int .i64 yl, .int .i64 yh], .agg #[.int .i64 lethal, .int .i64 cap], .agg #[sv, .int .i64 out, .int .i64 price]] w fun e w' =>
      NumErr (prvN zs (askE cx cy size cols rows zs xl xh yl yh lethal cap) cap (cellsL cx cy size cols rows xl xh yl yh) (cellsM cx cy size cols rows xl xh yl yh) ps out price) (prvE zs (askE cx cy size cols rows zs xl xh yl yh lethal cap) cap (cellsL cx cy size cols rows xl xh yl yh) (cellsM cx cy size cols rows xl xh yl yh) ps out price) e ∧ Below w.heap.size w w' := by
  obtain ⟨pa, pc, rfl, hx⟩ := id hv
  clear hx
  obtain ⟨sa, sc, rfl, hx⟩ := id hs
  clear hx
  have HV := Lib.hid hv
  have HSV := Lib.hid hs
  have HA := Lib.hid (fun W (hW : IntsAt W (.slice pa zs.length pc) zs) => asked_any cx cy size cols rows _ zs xl xh yl yh lethal cap W hW hn)
  by_cases hask : askE cx cy size cols rows zs xl xh yl yh lethal cap = 0
  · have k := ask_ok hask
    obtain ⟨⟨u1, u2⟩, ⟨u3, u4⟩, ⟨u5, u6⟩, ⟨u7, u8⟩, u9, u10⟩ := mapB_false.1 k.mapb
    obtain ⟨⟨v1, v2, v3⟩, v4, v5, v6⟩ := wildB_false.1 k.wild
    have HC := Lib.hid (fun W => cells_any cx cy size cols rows (.slice pa zs.length pc) xl xh yl yh W u1 u2 u3 u4 u5 u6 u7 u8 u9 u10 v1 v2 v4 v5 v3 v6)
    obtain ⟨v9, v10⟩ := outB_false.1 k.capb
    have hck := k.cells
    rw [hask] at HA
    rw [hask]
    unfold CellsPost at HC
    change Hid (∀ W, Calls Tryz.prog 81 _ W fun e w' => ∃ v, e = .returned (.tuple #[v, .bool (cellsM cx cy size cols rows xl xh yl yh)]) ∧ w'.ownsRow W.heap.size 3 1 v (cellsL cx cy size cols rows xl xh yl yh).length ((cellsL cx cy size cols rows xl xh yl yh).map (Value.int .i64)) ∧ Below W.heap.size W w') at HC
    clear k u1 u2 u3 u4 u5 u6 u7 u8 u9 u10 v1 v2 v3 v4 v5 v6 hask hv hs
    generalize cellsL cx cy size cols rows xl xh yl yh = L at *
    generalize cellsM cx cy size cols rows xl xh yl yh = more at *
    have hL4 := hck.len
    have HK := Lib.hid hck
    clear hck
    have HP2 : Hid (argBad L (-1) ps = true → prvE zs 0 cap L more ps out price = 2) := show _ → _ from fun h => by unfold prvE sprE; simp [h]
    have HP3 : Hid (argBad L (-1) ps = false → outBad more out price = true → prvE zs 0 cap L more ps out price = 2) := show _ → _ from fun h h2 => by unfold prvE sprE; simp [h, h2]
    have HP4 : Hid (argBad L (-1) ps = false → outBad more out price = false → capBad cap ps = true → prvE zs 0 cap L more ps out price = 140) := show _ → _ from fun h h2 h3 => by unfold prvE sprE; simp [h, h2, h3]
    have HP5 : Hid (argBad L (-1) ps = false → outBad more out price = false → capBad cap ps = false → ¬ out + sumN ps = 1000000 → prvE zs 0 cap L more ps out price = 141) := show _ → _ from fun h h2 h3 h4 => by unfold prvE sprE; simp [h, h2, h3, h4]
    have HP6 : Hid (argBad L (-1) ps = false → outBad more out price = false → capBad cap ps = false → out + sumN ps = 1000000 → ¬ ppl zs ps = bnd zs cap L price → prvE zs 0 cap L more ps out price = 142) := show _ → _ from fun h h2 h3 h4 h5 => by unfold prvE sprE; simp [h, h2, h3, h4, h5]
    have HP7 : Hid (argBad L (-1) ps = false → outBad more out price = false → capBad cap ps = false → out + sumN ps = 1000000 → ppl zs ps = bnd zs cap L price → prvE zs 0 cap L more ps out price = 0) := show _ → _ from fun h h2 h3 h4 h5 => by unfold prvE sprE; simp [h, h2, h3, h4, h5]
    have HPN : Hid (prvE zs 0 cap L more ps out price = 0 → prvN zs 0 cap L more ps out price = ppl zs ps) := show _ → _ from fun h => if_pos h
    have HBAD : Hid (∀ k w', prvE zs 0 cap L more ps out price = k → ¬ k = 0 → Below w.heap.size w w' → NumErr (prvN zs 0 cap L more ps out price) (prvE zs 0 cap L more ps out price) (.returned (.tuple #[.int .i64 0, .int .i64 k])) ∧ Below w.heap.size w w') := show ∀ _ _, _ from fun k w' h h2 h3 => ⟨numErr_bad h h2, h3⟩
    have HOKK : Hid (∀ w', prvE zs 0 cap L more ps out price = 0 → Below w.heap.size w w' → NumErr (prvN zs 0 cap L more ps out price) (prvE zs 0 cap L more ps out price) (.returned (.tuple #[.int .i64 (ppl zs ps), .int .i64 0])) ∧ Below w.heap.size w w') := show ∀ _, _ from fun w' h h3 => ⟨by unfold NumErr; rw [h, HPN.out h], h3⟩
    clear HPN
    generalize prvE zs 0 cap L more ps out price = PE at *
    generalize prvN zs 0 cap L more ps out price = PN at *
    go_enter Tryz.func52, Tryz.ntmps52
    go_wp2_with fail
    obtain ⟨hM0, hA0, hW0, hS0, hz0, hB0⟩ := alloc4 w #[.int .i64 cx, .int .i64 cy, .int .i64 size, .int .i64 cols, .int .i64 rows, .slice pa zs.length pc] #[.int .i64 xl, .int .i64 xh, .int .i64 yl, .int .i64 yh] #[.int .i64 lethal, .int .i64 cap] #[.slice sa ps.length sc, .int .i64 out, .int .i64 price] 42 25 44 47
    generalize (((w.alloc (.cells #[.int .i64 cx, .int .i64 cy, .int .i64 size, .int .i64 cols, .int .i64 rows, .slice pa zs.length pc] 42)).alloc (.cells #[.int .i64 xl, .int .i64 xh, .int .i64 yl, .int .i64 yh] 25)).alloc (.cells #[.int .i64 lethal, .int .i64 cap] 44)).alloc (.cells #[.slice sa ps.length sc, .int .i64 out, .int .i64 price] 47) = W0 at *
    clear hz0
    refine (HA.out W0 (HV.out.below hB0)).mono ?_
    rintro e w1 ⟨rfl, hb1⟩
    have hM := hM0.below hb1
    have hA := hA0.below hb1
    have hW := hW0.below hb1
    have hS := hS0.below hb1
    have hB1 := below_trans hB0 hb1
    obtain ⟨m0, m1, m2, m3, m4, m5⟩ := cells6 hM
    obtain ⟨a0, a1, a2, a3⟩ := cells4 hA
    clear hM0 hA0 hW0 hS0 hb1 hB0
    go_wp2_with fail
    refine (HC.out _).mono ?_
    rintro e w2 ⟨v, rfl, hown, hb2⟩
    obtain ⟨la, lc, rfl, hx⟩ := id (ints_at_row hown)
    clear hx
    have HI := Lib.hid (ints_at_row hown)
    have HM := Lib.hid (hM.below hb2)
    have HW := Lib.hid (hW.below hb2)
    have hS := hS.below hb2
    have hB2 := below_trans hB1 hb2
    obtain ⟨s0, s1, s2⟩ := cells3 hS
    have HS2 := Lib.hid hS
    clear hown hM hA hW hS m0 m1 m2 m3 m4 m5 a0 a1 a2 a3 hB1 hb2
    go_wp2_with fail
    go_loopw [12, 39] (fun b i wr => ∃ (k : Nat) (bf : Int), k ≤ ps.length ∧ i = .int .i64 k ∧ b = .int .i64 bf ∧ Hid (argBad L (-1) ps = argBad L bf (ps.drop k)) ∧ Below w2.heap.size w2 wr) (fun _ i _ => ps.length - (intOf i).toNat)
    case atStart => exact ⟨0, -1, Nat.zero_le _, rfl, rfl, rfl, Below.refl _ _⟩
    case round =>
      obtain ⟨k, bf, hk, rfl, rfl, HB, hB⟩ := hrel
      have hBw := below_trans hB2 hB
      by_cases hlt : k < ps.length
      · obtain ⟨a', c', hac, h0 | ⟨b, off, rfl, hb, hc⟩⟩ := HSV.out.below hBw
        · omega
        simp only [Value.slice.injEq] at hac
        obtain ⟨rfl, _, rfl⟩ := hac
        have hck := hc (k * 2) (by omega)
        have hck1 := hc (k * 2 + 1) (by omega)
        rw [spanF_even ps k hlt] at hck
        rw [spanF_odd ps k hlt, ← Nat.add_assoc] at hck1
        have HD := Lib.hid (argBad_drop L bf ps k hlt)
        have HBS := Lib.hid (fun W (h : IntsAt W (.slice la L.length lc) L) => bs_any _ L ps[k].1 W h HK.out.asc (by omega))
        generalize ps[k].1 = q1 at *
        generalize ps[k].2 = q2 at *
        generalize L.contains q1 = cb at *
        have hNB := cellsNew wr #[.int .i64 q1, .int .i64 q2] 121
        have hB3 : Below w2.heap.size w2 (wr.alloc (.cells #[.int .i64 q1, .int .i64 q2] 121)) := balloc hB _
        have HI3 := Lib.hid (HI.out.below hB3)
        have i1 : (0 : Int) ≤ (k : Int) := by omega
        have i2 : (k : Int) < (ps.length : Int) := by omega
        clear hc
        go_wp2_with fail
        refine (HBS.out _ HI3.out).mono ?_
        rintro e w4 ⟨n4, rfl, hb4⟩
        have hNB := hNB.below hb4
        obtain ⟨p0, p1⟩ := cells2 hNB
        have hB4 := below_trans hB3 hb4
        clear hck hck1 HBS
        cases cb with
        | false =>
          go_wp2_with fail
          go_ret2
          exact HBAD.out 2 _ (HP2.out (by rw [HB.out, HD.out]; rfl)) (by omega) (below_trans hB2 hB4)
        | true =>
          by_cases hle : q1 ≤ bf
          · go_wp2_with fail
            go_ret2
            exact HBAD.out 2 _ (HP2.out (by rw [HB.out, HD.out]; simp [hle])) (by omega) (below_trans hB2 hB4)
          · have hle' : decide (q1 ≤ bf) = false := by simpa using hle
            have HD2 : Hid (argBad L bf (ps.drop k) = argBad L q1 (ps.drop (k + 1))) := show _ = _ from by rw [HD.out, hle']; simp
            clear HD
            go_wp2_with fail
            go_roundw
            case rel => exact ⟨k + 1, q1, by omega, by go_num, rfl, by show _ = _; rw [HB.out, HD2.out], hB4⟩
            case measure => simp [intOf]; omega
      · obtain rfl : k = ps.length := by omega
        have hab : argBad L (-1) ps = false := by rw [HB.out]; simp [argBad]
        have HAB := Lib.hid hab
        have hpl4 : ps.length ≤ 400 := by
          obtain ⟨g1, g2⟩ := (argBad_false ps (-1)).1 hab
          have hn : (ps.map Prod.fst).Nodup := by unfold List.Nodup; rw [List.pairwise_map]; exact g2.imp (fun h => by omega)
          have := nodup_len (L' := L) hn (fun c hc => by obtain ⟨p, hp, rfl⟩ := List.mem_map.1 hc; exact (g1 p hp).1)
          rw [List.length_map] at this
          omega
        have hPOK : Hid (∀ p ∈ ps, p.1 ∈ L) := show ∀ _ _, _ from fun p hp => (((argBad_false ps (-1)).1 hab).1 p hp).1
        clear hab HB HP2
        have hS3 := HS2.out.below hB
        obtain ⟨s0', s1', s2'⟩ := cells3 hS3
        have HS3 := Lib.hid hS3
        have HM3 := Lib.hid (HM.out.below hB)
        have HW3 := Lib.hid (HW.out.below hB)
        have HI3 := Lib.hid (HI.out.below hB)
        clear hS3 hB HS2 HM HW HI s0 s1 s2 hB2
        cases ho1 : outB out 0 1000000 with
        | true =>
          have HO : Hid (outBad more out price = true) := show _ = _ from by unfold outBad; rw [ho1]; rfl
          go_wp2_with (go_at_call 64; refine (out_any _ _ _ _).mono ?_; rintro e w' ⟨rfl, rfl⟩)
          go_ret2
          exact HBAD.out 2 _ (HP3.out HAB.out HO.out) (by omega) hBw
        | false =>
          by_cases h0 : 0 < out
          · cases more with
            | false =>
              have HO : Hid (outBad false out price = true) := show _ = _ from by unfold outBad; simp [h0]
              go_wp2_with (go_at_call 64; refine (out_any _ _ _ _).mono ?_; rintro e w' ⟨rfl, rfl⟩)
              go_ret2
              exact HBAD.out 2 _ (HP3.out HAB.out HO.out) (by omega) hBw
            | true =>
              cases ho3 : outB price 0 1000000 with
              | true =>
                have HO : Hid (outBad true out price = true) := show _ = _ from by unfold outBad; rw [ho3]; simp
                go_wp2_with (go_at_call 64; refine (out_any _ _ _ _).mono ?_; rintro e w' ⟨rfl, rfl⟩)
                go_ret2
                exact HBAD.out 2 _ (HP3.out HAB.out HO.out) (by omega) hBw
              | false =>
                have HO : Hid (outBad true out price = false) := show _ = _ from (by unfold outBad; rw [ho1, ho3]; simp)
                obtain ⟨b1, b2⟩ := outB_false.1 ho1
                obtain ⟨c1, c2⟩ := outB_false.1 ho3
                clear HP3
                go_wp2_with (go_at_call 64; refine (out_any _ _ _ _).mono ?_; rintro e w' ⟨rfl, rfl⟩)
                obtain ⟨wa, rfl⟩ : ∃ wa : World, wa = wr := ⟨_, rfl⟩
                go_loopw [17, 83] (fun sm i wr => ∃ (k : Nat) (s : Int), k ≤ ps.length ∧ i = .int .i64 k ∧ sm = .int .i64 s ∧ 0 ≤ s ∧ s ≤ 1000000 + k * 1000000 ∧ Hid (s = out + sumN (ps.take k)) ∧ Hid (capBad cap ps = capBad cap (ps.drop k)) ∧ Below wa.heap.size wa wr) (fun _ i _ => ps.length - (intOf i).toNat)
                case atStart => exact ⟨0, out, Nat.zero_le _, rfl, rfl, b1, by omega, by show _ = _; simp [sumN], rfl, Below.refl _ _⟩
                case round =>
                  obtain ⟨k, s, hk, rfl, rfl, hs0, hs1, HSM, HCB, hB⟩ := hrel
                  have hBw2 := below_trans hBw hB
                  obtain ⟨l0, l1⟩ := cells2 (HW3.out.below hB)
                  have hl2 : w.heap.size + 1 + 1 < wr.heap.size := World.block_lt_of_cell? _ _ l1
                  by_cases hlt : k < ps.length
                  · obtain ⟨a', c', hac, h0 | ⟨b, off, rfl, hb, hc⟩⟩ := HSV.out.below hBw2
                    · omega
                    simp only [Value.slice.injEq] at hac
                    obtain ⟨rfl, _, rfl⟩ := hac
                    have hck := hc (k * 2) (by omega)
                    have hck1 := hc (k * 2 + 1) (by omega)
                    rw [spanF_even ps k hlt] at hck
                    rw [spanF_odd ps k hlt, ← Nat.add_assoc] at hck1
                    have HD := Lib.hid (capBad_drop cap ps k hlt)
                    have HSN := Lib.hid (sumN_take ps k hlt)
                    generalize ps[k].1 = q1 at *
                    generalize ps[k].2 = q2 at *
                    have i1 : (0 : Int) ≤ (k : Int) := by omega
                    have i2 : (k : Int) < (ps.length : Int) := by omega
                    clear hc
                    cases hq : outB q2 1 cap with
                    | true =>
                      have HQ := Lib.hid hq
                      go_wp2_with (go_at_call 64; refine (out_any _ _ _ _).mono ?_; rintro e w' ⟨rfl, rfl⟩)
                      go_ret2
                      exact HBAD.out 140 _ (HP4.out HAB.out HO.out (by rw [HCB.out, HD.out, HQ.out]; rfl)) (by omega) (below_trans hBw (balloc hB _))
                    | false =>
                      have HQ := Lib.hid hq
                      obtain ⟨q20, q21⟩ := outB_false.1 hq
                      go_wp2_with (go_at_call 64; refine (out_any _ _ _ _).mono ?_; rintro e w' ⟨rfl, rfl⟩)
                      go_roundw
                      case rel => exact ⟨k + 1, s + q2, by omega, by go_num, rfl, by omega, by omega, by show _ = _; rw [HSN.out, HSM.out]; omega, by show _ = _; rw [HCB.out, HD.out, HQ.out]; rfl, balloc hB _⟩
                      case measure => simp [intOf]; omega
                  · obtain rfl : k = ps.length := by omega
                    have hcb : capBad cap ps = false := by rw [HCB.out]; simp [capBad]
                    have HCB2 := Lib.hid hcb
                    rw [List.take_length] at HSM
                    have hPA : PartsOK zs ps := fun p hp => by
                      have h1 := HK.out.r p.1 (hPOK.out p hp)
                      have h2 := capBad_false.1 hcb p hp
                      exact ⟨h1.1, h1.2, by omega, by omega⟩
                    have HPA := Lib.hid hPA
                    have HZ := Lib.hid HK.out.z
                    have HR := Lib.hid HK.out.r
                    have hn4 : zs.length ≤ 400 := HK.out.n4
                    have hS3 := HS3.out.below hB
                    obtain ⟨s0, s1, s2⟩ := cells3 hS3
                    have HS4 := Lib.hid hS3
                    have HM4 := Lib.hid (HM3.out.below hB)
                    have HW4 := Lib.hid (HW3.out.below hB)
                    have HI4 := Lib.hid (HI3.out.below hB)
                    clear hcb hPA hPOK hS3 hB HCB HP4 HS3 HM3 HW3 HI3 s0' s1' s2' hBw l0 l1
                    by_cases hsum : s = 1000000
                    · subst hsum
                      have HSUM : Hid (out + sumN ps = 1000000) := show _ = _ from HSM.out.symm
                      clear HSM HP5
                      have p0 := IntWalk.i64_in (1000000 * price) ⟨by omega, by omega⟩
                      go_wp2_with fail
                      clear p0
                      obtain ⟨wb, rfl⟩ : ∃ wb : World, wb = wr := ⟨_, rfl⟩
                      go_loopw [20, 104] (fun bs i wr => ∃ (k : Nat) (acc : Int), k ≤ L.length ∧ i = .int .i64 k ∧ bs = .int .i64 acc ∧ 0 ≤ acc ∧ acc ≤ 1000000000000 + k * 1000000000000 ∧ Hid (acc = 1000000 * price + sumF (fun c => cap * max 0 (zc zs c - price)) (L.take k)) ∧ Below wb.heap.size wb wr) (fun _ i _ => L.length - (intOf i).toNat)
                      case atStart => exact ⟨0, 1000000 * price, Nat.zero_le _, rfl, rfl, by omega, by omega, by show _ = _; simp [sumF], Below.refl _ _⟩
                      case round =>
                        obtain ⟨k, acc, hk, rfl, rfl, ha0, ha1, HAC, hB⟩ := hrel
                        obtain ⟨l0, l1⟩ := cells2 (HW4.out.below hB)
                        obtain ⟨m0, m1, m2, m3, m4, m5⟩ := cells6 (HM4.out.below hB)
                        obtain ⟨s0, s1, s2⟩ := cells3 (HS4.out.below hB)
                        have hBw3 := below_trans hBw2 hB
                        by_cases hlt : k < L.length
                        · obtain ⟨a', c', hac, h0 | ⟨b, off, rfl, hb, hc⟩⟩ := HI4.out.below hB
                          · omega
                          simp only [Value.slice.injEq] at hac
                          obtain ⟨rfl, _, rfl⟩ := hac
                          have hx := HR.out L[k] (List.getElem_mem hlt)
                          have e0 := hc k (by omega)
                          have HTT : Hid (1000000 * price + sumF (fun c => cap * max 0 (zc zs c - price)) (L.take (k + 1)) = acc + cap * max 0 (zc zs L[k] - price)) := show _ = _ from by
                            rw [List.take_succ_eq_append_getElem hlt, sumF_snoc, HAC.out]; omega
                          have e1 : wr.cell? ⟨b, off + k, none⟩ = some (.int .i64 L[k]) := by
                            unfold intF at e0
                            simpa [hlt] using e0
                          obtain ⟨a5, c5, hac, h0 | ⟨b5, off5, rfl, hb5, hc5⟩⟩ := HV.out.below hBw3
                          · omega
                          simp only [Value.slice.injEq] at hac
                          obtain ⟨rfl, _, rfl⟩ := hac
                          have e3 := hc5 L[k].toNat (by omega)
                          unfold intF at e3
                          rw [← List.getD_eq_getElem?_getD] at e3
                          have hzb := zc_bd HZ.out L[k]
                          change _ = some (Value.int .i64 (zc zs L[k])) at e3
                          generalize zc zs L[k] = z at *
                          generalize L[k] = x at *
                          obtain ⟨x0, x1⟩ := hx
                          obtain ⟨z0, z1⟩ := hzb
                          have i1 : (0 : Int) ≤ (k : Int) := by omega
                          have i2 : (k : Int) < (L.length : Int) := by omega
                          clear hc hc5 e0
                          have o1 := IntWalk.i64_in (z - price) ⟨by omega, by omega⟩
                          have hm0 : 0 ≤ max 0 (z - price) ∧ max 0 (z - price) ≤ 1000000 := by omega
                          obtain ⟨r1, r2⟩ := mul_bd cap (max 0 (z - price)) 1000000 1000000 (by omega) v10 hm0.1 hm0.2
                          have o2 := IntWalk.i64_in (cap * max 0 (z - price)) ⟨by omega, by omega⟩
                          have o3 := IntWalk.i64_in (acc + cap * max 0 (z - price)) ⟨by omega, by omega⟩
                          go_wp2_with fail
                          go_quiet (fail)
                          clear o1 o2 o3
                          go_wp2_with fail
                          go_roundw
                          case rel => exact ⟨k + 1, acc + cap * max 0 (z - price), by omega, by go_num, rfl, by omega, by omega, by show _ = _; rw [HTT.out], below_drewN' hB _⟩
                          case measure => simp [intOf]; omega
                        · obtain rfl : k = L.length := by omega
                          rw [List.take_length] at HAC
                          have HBN : Hid (acc = bnd zs cap L price) := show _ = _ from HAC.out
                          have HPE := Lib.hid (fun W (h : IntsAt W (.slice pa zs.length pc) zs) (h2 : SpansAt W (.slice sa ps.length sc) ps) => people_any cx cy size cols rows _ _ out price zs ps W h h2 HZ.out HPA.out (by omega))
                          have HIV := Lib.hid (HV.out.below hBw3)
                          have HIS := Lib.hid (HSV.out.below hBw3)
                          clear HAC
                          go_wp2_with fail
                          refine (HPE.out _ HIV.out HIS.out).mono ?_
                          rintro e w9 ⟨rfl, hb9⟩
                          have hBw4 := below_trans hBw3 hb9
                          by_cases hpb : ppl zs ps = acc
                          · have HOK2 : Hid (PE = 0) := show _ = _ from HP7.out HAB.out HO.out HCB2.out HSUM.out (by rw [hpb]; exact HBN.out)
                            have HE2 := Lib.hid (HOKK.out)
                            clear HOKK
                            rw [hpb] at HE2 ⊢
                            go_wp2_with fail
                            go_ret2
                            exact HE2.out _ HOK2.out hBw4
                          · have hpb' : (ppl zs ps != acc) = true := by simpa using hpb
                            have HBD2 : Hid (PE = 142) := show _ = _ from HP6.out HAB.out HO.out HCB2.out HSUM.out (by rw [← HBN.out]; exact hpb)
                            clear hpb
                            go_wp2_with fail
                            go_ret2
                            exact HBAD.out 142 _ HBD2.out (by omega) hBw4
                    · have hs' : (s != 1000000) = true := by simpa using hsum
                      have HN : Hid (¬ out + sumN ps = 1000000) := show ¬ _ from by rw [← HSM.out]; exact hsum
                      clear hsum HSM
                      go_wp2_with fail
                      go_ret2
                      exact HBAD.out 141 _ (HP5.out HAB.out HO.out HCB2.out HN.out) (by omega) hBw2
          · have h0' : decide (0 < out) = false := by simpa using h0
            cases ho3 : outB price 0 1000000 with
            | true =>
              have HO : Hid (outBad more out price = true) := show _ = _ from by unfold outBad; rw [ho3]; simp
              go_wp2_with (go_at_call 64; refine (out_any _ _ _ _).mono ?_; rintro e w' ⟨rfl, rfl⟩)
              go_ret2
              exact HBAD.out 2 _ (HP3.out HAB.out HO.out) (by omega) hBw
            | false =>
              have HO : Hid (outBad more out price = false) := show _ = _ from (by unfold outBad; rw [ho1, ho3, h0']; simp)
              obtain ⟨b1, b2⟩ := outB_false.1 ho1
              obtain ⟨c1, c2⟩ := outB_false.1 ho3
              clear HP3
              go_wp2_with (go_at_call 64; refine (out_any _ _ _ _).mono ?_; rintro e w' ⟨rfl, rfl⟩)
              obtain ⟨wa, rfl⟩ : ∃ wa : World, wa = wr := ⟨_, rfl⟩
              go_loopw [17, 83] (fun sm i wr => ∃ (k : Nat) (s : Int), k ≤ ps.length ∧ i = .int .i64 k ∧ sm = .int .i64 s ∧ 0 ≤ s ∧ s ≤ 1000000 + k * 1000000 ∧ Hid (s = out + sumN (ps.take k)) ∧ Hid (capBad cap ps = capBad cap (ps.drop k)) ∧ Below wa.heap.size wa wr) (fun _ i _ => ps.length - (intOf i).toNat)
              case atStart => exact ⟨0, out, Nat.zero_le _, rfl, rfl, b1, by omega, by show _ = _; simp [sumN], rfl, Below.refl _ _⟩
              case round =>
                obtain ⟨k, s, hk, rfl, rfl, hs0, hs1, HSM, HCB, hB⟩ := hrel
                have hBw2 := below_trans hBw hB
                obtain ⟨l0, l1⟩ := cells2 (HW3.out.below hB)
                have hl2 : w.heap.size + 1 + 1 < wr.heap.size := World.block_lt_of_cell? _ _ l1
                by_cases hlt : k < ps.length
                · obtain ⟨a', c', hac, h0 | ⟨b, off, rfl, hb, hc⟩⟩ := HSV.out.below hBw2
                  · omega
                  simp only [Value.slice.injEq] at hac
                  obtain ⟨rfl, _, rfl⟩ := hac
                  have hck := hc (k * 2) (by omega)
                  have hck1 := hc (k * 2 + 1) (by omega)
                  rw [spanF_even ps k hlt] at hck
                  rw [spanF_odd ps k hlt, ← Nat.add_assoc] at hck1
                  have HD := Lib.hid (capBad_drop cap ps k hlt)
                  have HSN := Lib.hid (sumN_take ps k hlt)
                  generalize ps[k].1 = q1 at *
                  generalize ps[k].2 = q2 at *
                  have i1 : (0 : Int) ≤ (k : Int) := by omega
                  have i2 : (k : Int) < (ps.length : Int) := by omega
                  clear hc
                  cases hq : outB q2 1 cap with
                  | true =>
                    have HQ := Lib.hid hq
                    go_wp2_with (go_at_call 64; refine (out_any _ _ _ _).mono ?_; rintro e w' ⟨rfl, rfl⟩)
                    go_ret2
                    exact HBAD.out 140 _ (HP4.out HAB.out HO.out (by rw [HCB.out, HD.out, HQ.out]; rfl)) (by omega) (below_trans hBw (balloc hB _))
                  | false =>
                    have HQ := Lib.hid hq
                    obtain ⟨q20, q21⟩ := outB_false.1 hq
                    go_wp2_with (go_at_call 64; refine (out_any _ _ _ _).mono ?_; rintro e w' ⟨rfl, rfl⟩)
                    go_roundw
                    case rel => exact ⟨k + 1, s + q2, by omega, by go_num, rfl, by omega, by omega, by show _ = _; rw [HSN.out, HSM.out]; omega, by show _ = _; rw [HCB.out, HD.out, HQ.out]; rfl, balloc hB _⟩
                    case measure => simp [intOf]; omega
                · obtain rfl : k = ps.length := by omega
                  have hcb : capBad cap ps = false := by rw [HCB.out]; simp [capBad]
                  have HCB2 := Lib.hid hcb
                  rw [List.take_length] at HSM
                  have hPA : PartsOK zs ps := fun p hp => by
                    have h1 := HK.out.r p.1 (hPOK.out p hp)
                    have h2 := capBad_false.1 hcb p hp
                    exact ⟨h1.1, h1.2, by omega, by omega⟩
                  have HPA := Lib.hid hPA
                  have HZ := Lib.hid HK.out.z
                  have HR := Lib.hid HK.out.r
                  have hn4 : zs.length ≤ 400 := HK.out.n4
                  have hS3 := HS3.out.below hB
                  obtain ⟨s0, s1, s2⟩ := cells3 hS3
                  have HS4 := Lib.hid hS3
                  have HM4 := Lib.hid (HM3.out.below hB)
                  have HW4 := Lib.hid (HW3.out.below hB)
                  have HI4 := Lib.hid (HI3.out.below hB)
                  clear hcb hPA hPOK hS3 hB HCB HP4 HS3 HM3 HW3 HI3 s0' s1' s2' hBw l0 l1
                  by_cases hsum : s = 1000000
                  · subst hsum
                    have HSUM : Hid (out + sumN ps = 1000000) := show _ = _ from HSM.out.symm
                    clear HSM HP5
                    have p0 := IntWalk.i64_in (1000000 * price) ⟨by omega, by omega⟩
                    go_wp2_with fail
                    clear p0
                    obtain ⟨wb, rfl⟩ : ∃ wb : World, wb = wr := ⟨_, rfl⟩
                    go_loopw [20, 104] (fun bs i wr => ∃ (k : Nat) (acc : Int), k ≤ L.length ∧ i = .int .i64 k ∧ bs = .int .i64 acc ∧ 0 ≤ acc ∧ acc ≤ 1000000000000 + k * 1000000000000 ∧ Hid (acc = 1000000 * price + sumF (fun c => cap * max 0 (zc zs c - price)) (L.take k)) ∧ Below wb.heap.size wb wr) (fun _ i _ => L.length - (intOf i).toNat)
                    case atStart => exact ⟨0, 1000000 * price, Nat.zero_le _, rfl, rfl, by omega, by omega, by show _ = _; simp [sumF], Below.refl _ _⟩
                    case round =>
                      obtain ⟨k, acc, hk, rfl, rfl, ha0, ha1, HAC, hB⟩ := hrel
                      obtain ⟨l0, l1⟩ := cells2 (HW4.out.below hB)
                      obtain ⟨m0, m1, m2, m3, m4, m5⟩ := cells6 (HM4.out.below hB)
                      obtain ⟨s0, s1, s2⟩ := cells3 (HS4.out.below hB)
                      have hBw3 := below_trans hBw2 hB
                      by_cases hlt : k < L.length
                      · obtain ⟨a', c', hac, h0 | ⟨b, off, rfl, hb, hc⟩⟩ := HI4.out.below hB
                        · omega
                        simp only [Value.slice.injEq] at hac
                        obtain ⟨rfl, _, rfl⟩ := hac
                        have hx := HR.out L[k] (List.getElem_mem hlt)
                        have e0 := hc k (by omega)
                        have HTT : Hid (1000000 * price + sumF (fun c => cap * max 0 (zc zs c - price)) (L.take (k + 1)) = acc + cap * max 0 (zc zs L[k] - price)) := show _ = _ from by
                          rw [List.take_succ_eq_append_getElem hlt, sumF_snoc, HAC.out]; omega
                        have e1 : wr.cell? ⟨b, off + k, none⟩ = some (.int .i64 L[k]) := by
                          unfold intF at e0
                          simpa [hlt] using e0
                        obtain ⟨a5, c5, hac, h0 | ⟨b5, off5, rfl, hb5, hc5⟩⟩ := HV.out.below hBw3
                        · omega
                        simp only [Value.slice.injEq] at hac
                        obtain ⟨rfl, _, rfl⟩ := hac
                        have e3 := hc5 L[k].toNat (by omega)
                        unfold intF at e3
                        rw [← List.getD_eq_getElem?_getD] at e3
                        have hzb := zc_bd HZ.out L[k]
                        change _ = some (Value.int .i64 (zc zs L[k])) at e3
                        generalize zc zs L[k] = z at *
                        generalize L[k] = x at *
                        obtain ⟨x0, x1⟩ := hx
                        obtain ⟨z0, z1⟩ := hzb
                        have i1 : (0 : Int) ≤ (k : Int) := by omega
                        have i2 : (k : Int) < (L.length : Int) := by omega
                        clear hc hc5 e0
                        have o1 := IntWalk.i64_in (z - price) ⟨by omega, by omega⟩
                        have hm0 : 0 ≤ max 0 (z - price) ∧ max 0 (z - price) ≤ 1000000 := by omega
                        obtain ⟨r1, r2⟩ := mul_bd cap (max 0 (z - price)) 1000000 1000000 (by omega) v10 hm0.1 hm0.2
                        have o2 := IntWalk.i64_in (cap * max 0 (z - price)) ⟨by omega, by omega⟩
                        have o3 := IntWalk.i64_in (acc + cap * max 0 (z - price)) ⟨by omega, by omega⟩
                        go_wp2_with fail
                        go_quiet (fail)
                        clear o1 o2 o3
                        go_wp2_with fail
                        go_roundw
                        case rel => exact ⟨k + 1, acc + cap * max 0 (z - price), by omega, by go_num, rfl, by omega, by omega, by show _ = _; rw [HTT.out], below_drewN' hB _⟩
                        case measure => simp [intOf]; omega
                      · obtain rfl : k = L.length := by omega
                        rw [List.take_length] at HAC
                        have HBN : Hid (acc = bnd zs cap L price) := show _ = _ from HAC.out
                        have HPE := Lib.hid (fun W (h : IntsAt W (.slice pa zs.length pc) zs) (h2 : SpansAt W (.slice sa ps.length sc) ps) => people_any cx cy size cols rows _ _ out price zs ps W h h2 HZ.out HPA.out (by omega))
                        have HIV := Lib.hid (HV.out.below hBw3)
                        have HIS := Lib.hid (HSV.out.below hBw3)
                        clear HAC
                        go_wp2_with fail
                        refine (HPE.out _ HIV.out HIS.out).mono ?_
                        rintro e w9 ⟨rfl, hb9⟩
                        have hBw4 := below_trans hBw3 hb9
                        by_cases hpb : ppl zs ps = acc
                        · have HOK2 : Hid (PE = 0) := show _ = _ from HP7.out HAB.out HO.out HCB2.out HSUM.out (by rw [hpb]; exact HBN.out)
                          have HE2 := Lib.hid (HOKK.out)
                          clear HOKK
                          rw [hpb] at HE2 ⊢
                          go_wp2_with fail
                          go_ret2
                          exact HE2.out _ HOK2.out hBw4
                        · have hpb' : (ppl zs ps != acc) = true := by simpa using hpb
                          have HBD2 : Hid (PE = 142) := show _ = _ from HP6.out HAB.out HO.out HCB2.out HSUM.out (by rw [← HBN.out]; exact hpb)
                          clear hpb
                          go_wp2_with fail
                          go_ret2
                          exact HBAD.out 142 _ HBD2.out (by omega) hBw4
                  · have hs' : (s != 1000000) = true := by simpa using hsum
                    have HN : Hid (¬ out + sumN ps = 1000000) := show ¬ _ from by rw [← HSM.out]; exact hsum
                    clear hsum HSM
                    go_wp2_with fail
                    go_ret2
                    exact HBAD.out 141 _ (HP5.out HAB.out HO.out HCB2.out HN.out) (by omega) hBw2
  · have hak : (askE cx cy size cols rows zs xl xh yl yh lethal cap != 0) = true := by simpa using hask
    have HE : Hid (prvE zs (askE cx cy size cols rows zs xl xh yl yh lethal cap) cap (cellsL cx cy size cols rows xl xh yl yh) (cellsM cx cy size cols rows xl xh yl yh) ps out price = askE cx cy size cols rows zs xl xh yl yh lethal cap) := show _ = _ from by unfold prvE; rw [if_pos hask]
    have HN := Lib.hid hask
    clear hask hv hs
    generalize askE cx cy size cols rows zs xl xh yl yh lethal cap = ak at *
    go_enter Tryz.func52, Tryz.ntmps52
    go_wp2_with fail
    obtain ⟨hM0, hA0, hW0, hS0, hz0, hB0⟩ := alloc4 w #[.int .i64 cx, .int .i64 cy, .int .i64 size, .int .i64 cols, .int .i64 rows, .slice pa zs.length pc] #[.int .i64 xl, .int .i64 xh, .int .i64 yl, .int .i64 yh] #[.int .i64 lethal, .int .i64 cap] #[.slice sa ps.length sc, .int .i64 out, .int .i64 price] 42 25 44 47
    generalize (((w.alloc (.cells #[.int .i64 cx, .int .i64 cy, .int .i64 size, .int .i64 cols, .int .i64 rows, .slice pa zs.length pc] 42)).alloc (.cells #[.int .i64 xl, .int .i64 xh, .int .i64 yl, .int .i64 yh] 25)).alloc (.cells #[.int .i64 lethal, .int .i64 cap] 44)).alloc (.cells #[.slice sa ps.length sc, .int .i64 out, .int .i64 price] 47) = W0 at *
    clear hz0
    refine (HA.out W0 (HV.out.below hB0)).mono ?_
    rintro e w1 ⟨rfl, hb1⟩
    have hB1 := below_trans hB0 hb1
    go_wp2_with fail
    go_ret2
    exact ⟨numErr_bad HE.out HN.out, hB1⟩
end Go.Proofs.YtmglbegbijofkaaGreatDoor
