import Derived.Test.YtmglbegbijofkaaGreatDoorW64
import Derived.Test.YtmglbegbijofkaaGreatDoorW69
import Derived.Test.YtmglbegbijofkaaGreatDoorW22
set_option linter.unusedVariables false
set_option linter.unusedSimpArgs false
namespace Go.Proofs.YtmglbegbijofkaaGreatDoor
open Go.RowKit Go.Shelf Go.Sort
theorem clE_of {cx cy size cols rows : Int} {zs : List Int} {xl xh yl yh lethal cap : Int} (k : AskOK cx cy size cols rows zs xl xh yl yh lethal cap) : clE cx cy size cols rows zs xl xh yl yh = 0 ∧ clL cx cy size cols rows zs xl xh yl yh = cellsL cx cy size cols rows xl xh yl yh ∧ clM cx cy size cols rows zs xl xh yl yh = cellsM cx cy size cols rows xl xh yl yh := by
  have he : clE cx cy size cols rows zs xl xh yl yh = 0 := by unfold clE; rw [k.chk, k.wild]; simp
  refine ⟨he, ?_, ?_⟩
  · unfold clL; rw [if_pos he]; rfl
  · unfold clM; rw [if_pos he]; rfl
theorem mostQ_len {zs : List Int} {ask cap : Int} {L : List Int} {more : Bool} (hc : ask = 0 → CellsOK zs L) : (mostQ zs ask cap L more).length ≤ 1000000 := by
  unfold mostQ
  split
  · rename_i he
    have hk := hc (mostE_zero.1 he).1
    unfold partsOf
    have h1 := List.length_filterMap_le (fun (i : Nat) => if 0 < gvn (givL zs.length (gv zs cap (ordS zs L)).1) i then some ((i : Int), gvn (givL zs.length (gv zs cap (ordS zs L)).1) i) else none) (List.range zs.length)
    have h2 := hk.n4
    rw [List.length_range] at h1
    omega
  · simp
theorem prv_most {zs : List Int} {cap : Int} {L : List Int} {more : Bool} (hc : CellsOK zs L) (h1 : 1 ≤ cap) (h : mostE zs 0 cap L more = 0) :
    prvE zs 0 cap L more (mostQ zs 0 cap L more) (mostO zs 0 cap L more) (mostP zs 0 cap L more) = 0 ∧ prvN zs 0 cap L more (mostQ zs 0 cap L more) (mostO zs 0 cap L more) (mostP zs 0 cap L more) = mostN zs 0 cap L more := by
  have h2 := (mostE_zero.1 h).2
  have hf := gv_feas h1 _ hc.desc hc.nodup
  have hi := gv_inv h1 _ hc.desc
  have hcc : ∀ p ∈ (gv zs cap (ordS zs L)).1, 0 ≤ p.1 ∧ p.1 < (zs.length : Int) ∧ 1 ≤ p.2 := fun p hp => by
    have hm := hc.perm.mem_iff.1 (hf.sub p.1 (List.mem_map_of_mem hp))
    exact ⟨(hc.r _ hm).1, (hc.r _ hm).2, (hi.part p hp).1⟩
  have hq : mostQ zs 0 cap L more = partsOf (givL zs.length (gv zs cap (ordS zs L)).1) zs.length := if_pos h
  have ho : mostO zs 0 cap L more = (gv zs cap (ordS zs L)).2.1 := if_pos h
  have hp : mostP zs 0 cap L more = gvPrice (gv zs cap (ordS zs L)) := if_pos h
  have hn : mostN zs 0 cap L more = ppl zs (gv zs cap (ordS zs L)).1 := if_pos h
  have hsrt := partsOf_sorted (givL zs.length (gv zs cap (ordS zs L)).1) zs.length
  have hperm : (partsOf (givL zs.length (gv zs cap (ordS zs L)).1) zs.length).Perm (gv zs cap (ordS zs L)).1 := by
    obtain ⟨qs, hqp, hqs⟩ : ∃ qs : List (Int × Int), qs.Perm (gv zs cap (ordS zs L)).1 ∧ qs.Pairwise (fun x y => x.1 ≤ y.1) :=
      ⟨_, List.mergeSort_perm _ (fun x y => decide (x.1 ≤ y.1)), (List.pairwise_mergeSort (le := fun x y : Int × Int => decide (x.1 ≤ y.1)) (fun a b c h1 h2 => by simp at *; omega) (fun a b => by simp; omega) _).imp (fun h => by simpa using h)⟩
    rw [parts_eq hf.nodup hcc hqp hqs]
    exact hqp
  obtain ⟨s1, s2⟩ := prove_most hc.z h1 hc.desc hc.nodup hc.perm (fun c hcm => (hc.r c hcm).1) hperm (hsrt.imp (fun h => by omega)) h2
  have he : prvE zs 0 cap L more (mostQ zs 0 cap L more) (mostO zs 0 cap L more) (mostP zs 0 cap L more) = 0 := by
    rw [hq, ho, hp]
    unfold prvE
    rw [if_neg (by simp), sprE_zero.2 s1, if_neg (by simp), ppl_perm zs hperm, if_pos s2]
  refine ⟨he, ?_⟩
  unfold prvN
  rw [if_pos he, hn, hq, ppl_perm zs hperm]
theorem prv_some {zs : List Int} {ask cap : Int} {L : List Int} {more : Bool} {ps : List (Int × Int)} {out price : Int} (hc : ask = 0 → CellsOK zs L) (h1 : ask = 0 → 1 ≤ cap) (h : prvE zs ask cap L more ps out price = 0) :
    ask = 0 ∧ SprOK L more cap ps out price ∧ mostE zs ask cap L more = 0 ∧ prvN zs ask cap L more ps out price = mostN zs ask cap L more := by
  have h0 := h
  unfold prvE at h
  by_cases ha : ask = 0
  · rw [if_neg (by simpa using ha)] at h
    by_cases hs : sprE L more cap ps out price = 0
    · rw [if_neg (by simpa using hs)] at h
      have hsp := sprE_zero.1 hs
      by_cases hb : ppl zs ps = bnd zs cap L price
      · have hk := hc ha
        obtain ⟨p1, p2⟩ := prove_any hk.z (h1 ha) hk.desc hk.nodup hk.perm hsp hb
        have hm : mostE zs ask cap L more = 0 := mostE_zero.2 ⟨ha, p1⟩
        refine ⟨ha, hsp, hm, ?_⟩
        unfold prvN mostN
        rw [if_pos h0, if_pos hm, p2]
      · rw [if_neg hb] at h; cases h
    · rw [if_pos hs] at h; exact absurd h hs
  · rw [if_pos ha] at h; exact absurd h ha
theorem prvN_bad {zs : List Int} {ask cap : Int} {L : List Int} {more : Bool} {ps : List (Int × Int)} {out price : Int} (h : ¬ prvE zs ask cap L more ps out price = 0) : prvN zs ask cap L more ps out price = 0 := if_neg h
set_option maxRecDepth 100000 in
set_option maxHeartbeats 4000000 in
theorem law18 (cx cy size cols rows : Int) (pv : Value) (zs : List Int) (xl xh yl yh lethal cap : Int) (sv : Value) (out price : Int) (ps : List (Int × Int)) (w : World) (hv : IntsAt w pv zs) (hs : SpansAt w sv ps) (hn : zs.length ≤ 9223372036854775806) (hpl : ps.length ≤ 9223372036854775806) (ht : Tab10 w) :
    Calls Tryz.prog 18 #[.agg #[.int .i64 cx, .int .i64 cy, .int .i64 size, .int .i64 cols, .int .i64 rows, pv], .agg #[.int .i64 xl, .int .i64 xh, .int .i64 yl, .int .i64 yh, .int .i64 lethal, .int .i64 cap, sv, .int .i64 out, .int .i64 price]] w fun e w' => e = .returned (.bool true) ∧ Below w.heap.size w w' := by
  obtain ⟨a, c, rfl, hx⟩ := id hv
  clear hx
  obtain ⟨a2, c2, rfl, hx⟩ := id hs
  clear hx
  have HV := Lib.hid hv
  have HS := Lib.hid hs
  have HT := Lib.hid ht
  clear hv hs ht
  have HM1 := Lib.hid (fun W (h : IntsAt W (.slice a zs.length c) zs) => most_any cx cy size cols rows _ zs xl xh yl yh lethal cap W h hn)
  have HP2 := Lib.hid (fun W (h : IntsAt W (.slice a zs.length c) zs) (h2 : SpansAt W (.slice a2 ps.length c2) ps) => prove_any52 cx cy size cols rows _ zs xl xh yl yh lethal cap _ out price ps W h h2 hn hpl)
  have HSOME : Hid (prvE zs (askE cx cy size cols rows zs xl xh yl yh lethal cap) cap (cellsL cx cy size cols rows xl xh yl yh) (cellsM cx cy size cols rows xl xh yl yh) ps out price = 0 → _) := show _ → _ from fun h => prv_some (fun h => cells_ok h) (fun h => (outB_false.1 (ask_ok h).capb).1) h
  have HNONE : Hid (¬ prvE zs (askE cx cy size cols rows zs xl xh yl yh lethal cap) cap (cellsL cx cy size cols rows xl xh yl yh) (cellsM cx cy size cols rows xl xh yl yh) ps out price = 0 → _) := show _ → _ from fun h => prvN_bad h
  unfold MostSpr at HM1
  unfold NumErr at HP2
  by_cases h0 : mostE zs (askE cx cy size cols rows zs xl xh yl yh lethal cap) cap (cellsL cx cy size cols rows xl xh yl yh) (cellsM cx cy size cols rows xl xh yl yh) = 0
  · have ha := (mostE_zero.1 h0).1
    have k := ask_ok ha
    obtain ⟨v9, v10⟩ := outB_false.1 k.capb
    have HP1 := Lib.hid (fun W va vc (h : IntsAt W (.slice a zs.length c) zs) (h2 : SpansAt W (.slice va (mostQ zs (askE cx cy size cols rows zs xl xh yl yh lethal cap) cap (cellsL cx cy size cols rows xl xh yl yh) (cellsM cx cy size cols rows xl xh yl yh)).length vc) (mostQ zs (askE cx cy size cols rows zs xl xh yl yh lethal cap) cap (cellsL cx cy size cols rows xl xh yl yh) (cellsM cx cy size cols rows xl xh yl yh))) => prove_any52 cx cy size cols rows _ zs xl xh yl yh lethal cap _ (mostO zs (askE cx cy size cols rows zs xl xh yl yh lethal cap) cap (cellsL cx cy size cols rows xl xh yl yh) (cellsM cx cy size cols rows xl xh yl yh)) (mostP zs (askE cx cy size cols rows zs xl xh yl yh lethal cap) cap (cellsL cx cy size cols rows xl xh yl yh) (cellsM cx cy size cols rows xl xh yl yh)) _ W h h2 hn (by have := mostQ_len (zs := zs) (ask := askE cx cy size cols rows zs xl xh yl yh lethal cap) (cap := cap) (L := cellsL cx cy size cols rows xl xh yl yh) (more := cellsM cx cy size cols rows xl xh yl yh) (fun h => cells_ok h); omega))
    have HCL := Lib.hid (fun W (h : IntsAt W (.slice a zs.length c) zs) => Cells_any cx cy size cols rows _ zs xl xh yl yh W h hn)
    obtain ⟨q1, q2, q3⟩ := clE_of k
    unfold NumErr at HP1
    unfold ClPost at HCL
    rw [q1, q2, q3] at HCL
    rw [ha] at HP1 HP2 HM1 HSOME HNONE h0
    obtain ⟨e1, e2⟩ := prv_most k.cells v9 h0
    rw [e1, e2] at HP1
    rw [h0] at HM1
    have HC := Lib.hid k.cells
    clear ha k q1 q2 q3 e1 e2 h0
    generalize cellsL cx cy size cols rows xl xh yl yh = L at *
    generalize cellsM cx cy size cols rows xl xh yl yh = more at *
    generalize mostQ zs 0 cap L more = Q at *
    generalize mostO zs 0 cap L more = O at *
    generalize mostP zs 0 cap L more = P at *
    generalize mostN zs 0 cap L more = N at *
    generalize prvN zs 0 cap L more ps out price = PN at *
    generalize prvE zs 0 cap L more ps out price = PE at *
    go_enter Tryz.func18, Tryz.ntmps18
    go_wp2_with fail
    obtain ⟨hM, hX, hz, hB⟩ := alloc2 w #[.int .i64 cx, .int .i64 cy, .int .i64 size, .int .i64 cols, .int .i64 rows, .slice a zs.length c] #[.int .i64 xl, .int .i64 xh, .int .i64 yl, .int .i64 yh, .int .i64 lethal, .int .i64 cap, .slice a2 ps.length c2, .int .i64 out, .int .i64 price] 42 49
    clear hz
    generalize (w.alloc (.cells #[.int .i64 cx, .int .i64 cy, .int .i64 size, .int .i64 cols, .int .i64 rows, .slice a zs.length c] 42)).alloc (.cells #[.int .i64 xl, .int .i64 xh, .int .i64 yl, .int .i64 yh, .int .i64 lethal, .int .i64 cap, .slice a2 ps.length c2, .int .i64 out, .int .i64 price] 49) = W0 at *
    refine (HM1.out _ (HV.out.below hB)).mono ?_
    rintro e w1 ⟨v1, rfl, hq1, hb1⟩
    obtain ⟨va, vc, rfl, hx⟩ := id hq1
    clear hx
    have hR := cellsNew w1 #[.slice va Q.length vc, .int .i64 O, .int .i64 P] 47
    have hb1 := balloc hb1 (.cells #[.slice va Q.length vc, .int .i64 O, .int .i64 P] 47)
    have HQ1 := Lib.hid (hq1.below (balloc (Below.refl _ _) (.cells #[.slice va Q.length vc, .int .i64 O, .int .i64 P] 47)))
    clear hq1
    have hM := hM.below hb1
    have hX := hX.below hb1
    have hB := below_trans hB hb1
    obtain ⟨m0, m1, m2, m3, m4, m5⟩ := cells6 hM
    obtain ⟨x0, x1, x2, x3, x4, x5, x6, x7, x8⟩ := cells9 hX
    go_wp2_with fail
    refine (HP1.out _ va vc (HV.out.below hB) HQ1.out).mono ?_
    rintro e w2 ⟨rfl, hb2⟩
    clear m0 m1 m2 m3 m4 m5 x0 x1 x2 x3 x4 x5 x6 x7 x8 hR HQ1
    have hM := hM.below hb2
    have hX := hX.below hb2
    have hB := below_trans hB hb2
    obtain ⟨m0, m1, m2, m3, m4, m5⟩ := cells6 hM
    obtain ⟨x0, x1, x2, x3, x4, x5, x6, x7, x8⟩ := cells9 hX
    go_wp2_with fail
    refine (HP2.out _ (HV.out.below hB) (HS.out.below hB)).mono ?_
    rintro e w3 ⟨rfl, hb3⟩
    clear m0 m1 m2 m3 m4 m5 x0 x1 x2 x3 x4 x5 x6 x7 x8
    have hM := hM.below hb3
    have hX := hX.below hb3
    have hB := below_trans hB hb3
    obtain ⟨m0, m1, m2, m3, m4, m5⟩ := cells6 hM
    obtain ⟨x0, x1, x2, x3, x4, x5, x6, x7, x8⟩ := cells9 hX
    by_cases hpe : PE = 0
    · obtain ⟨_, hsp, _, hpn⟩ := HSOME.out hpe
      subst hpe
      obtain rfl : PN = N := hpn
      have HSP := Lib.hid hsp
      have hpl4 : ps.length ≤ 400 := by
        have hf := spr_feas v9 hsp
        have := nodup_len hf.nodup hf.sub
        have := HC.out.len
        rw [List.length_map] at *
        omega
      have hL4 := HC.out.len
      clear hsp HSOME HNONE HP1 HP2 HM1
      go_wp2_with fail
      refine (HCL.out _ (HV.out.below hB)).mono ?_
      rintro e w4 ⟨lv, rfl, hown, hb4⟩
      have HI := Lib.hid (ints_at_row hown)
      clear m0 m1 m2 m3 m4 m5 x0 x1 x2 x3 x4 x5 x6 x7 x8 hown
      have hM := hM.below hb4
      have hX := hX.below hb4
      have hB := below_trans hB hb4
      obtain ⟨m0, m1, m2, m3, m4, m5⟩ := cells6 hM
      obtain ⟨x0, x1, x2, x3, x4, x5, x6, x7, x8⟩ := cells9 hX
      have ho0 := HSP.out.o0
      have ho1 := HSP.out.o1
      have HX := Lib.hid hX
      clear m0 m1 m2 m3 m4 m5 hM
      go_wp2_with fail
      clear x0 x1 x2 x3 x4 x5 x6 x7 x8 hX
      go_loopw [15, 16] (fun sm i wr => ∃ (k : Nat) (s : Int), k ≤ ps.length ∧ i = .int .i64 k ∧ sm = .int .i64 s ∧ 0 ≤ s ∧ s ≤ 1000000 + k * 1000000 ∧ Hid (s = out + sumN (ps.take k)) ∧ Below w4.heap.size w4 wr) (fun _ i _ => ps.length - (intOf i).toNat)
      case atStart => exact ⟨0, out, Nat.zero_le _, rfl, rfl, ho0, by omega, by show _ = _; simp [sumN], Below.refl _ _⟩
      case round =>
        obtain ⟨k, s, hk, rfl, rfl, hs0, hs1, HSM, hB5⟩ := hrel
        have hBw := below_trans hB hB5
        have hX5 := HX.out.below hB5
        obtain ⟨x0, x1, x2, x3, x4, x5, x6, x7, x8⟩ := cells9 hX5
        have hxl : w.heap.size + 1 < wr.heap.size := hX5.lt
        by_cases hlt : k < ps.length
        · obtain ⟨a', c', hac, h0 | ⟨b, off, rfl, hb, hc⟩⟩ := HS.out.below hBw
          · omega
          simp only [Value.slice.injEq] at hac
          obtain ⟨rfl, _, rfl⟩ := hac
          have hck := hc (k * 2) (by omega)
          have hck1 := hc (k * 2 + 1) (by omega)
          rw [spanF_even ps k hlt] at hck
          rw [spanF_odd ps k hlt, ← Nat.add_assoc] at hck1
          have hpp := HSP.out.part ps[k] (List.getElem_mem hlt)
          have hcl := (HSP.out.cell ps[k] (List.getElem_mem hlt)).1
          have HSN := Lib.hid (sumN_take ps k hlt)
          have HLI : Hid (∀ W, IntsAt W lv L → Calls Tryz.prog 58 #[lv, .int .i64 ps[k].1] W fun e w' => e = .returned (.bool true) ∧ Below W.heap.size W w') := show ∀ _ _, _ from fun W h => by
            have h2 := listed_any lv L ps[k].1 W h (by omega)
            have e : L.contains ps[k].1 = true := by simpa using hcl
            rw [e] at h2
            exact h2
          generalize ps[k].1 = q1 at *
          generalize ps[k].2 = q2 at *
          obtain ⟨q20, q21⟩ := hpp
          have hn1 : ¬ q2 < 1 := by omega
          have hn2 : decide (cap < q2) = false := by simp; omega
          have i1 : (0 : Int) ≤ (k : Int) := by omega
          have i2 : (k : Int) < (ps.length : Int) := by omega
          have hNB := cellsNew wr #[.int .i64 q1, .int .i64 q2] 121
          have hB6 : Below w4.heap.size w4 (wr.alloc (.cells #[.int .i64 q1, .int .i64 q2] 121)) := balloc hB5 _
          clear hc hcl
          go_wp2_with fail
          refine (HLI.out _ (HI.out.below hB6)).mono ?_
          rintro e w6 ⟨rfl, hb6⟩
          have hNB := hNB.below hb6
          have hB7 := below_trans hB6 hb6
          clear x0 x1 x2 x3 x4 x5 x6 x7 x8 hX5 hck hck1 hxl
          obtain ⟨x0, x1, x2, x3, x4, x5, x6, x7, x8⟩ := cells9 (HX.out.below hB7)
          obtain ⟨p0, p1⟩ := cells2 hNB
          go_wp2_with fail
          go_roundw
          case rel => exact ⟨k + 1, s + q2, by omega, by go_num, rfl, by omega, by omega, by show _ = _; rw [HSN.out, HSM.out]; omega, hB7⟩
          case measure => simp [intOf]; omega
        · obtain rfl : k = ps.length := by omega
          rw [List.take_length] at HSM
          have hsum : s = 1000000 := by rw [HSM.out]; exact HSP.out.sum
          subst hsum
          have HOM := Lib.hid HSP.out.om
          clear HSM HSP
          by_cases hout : out = 0
          · subst hout
            go_wp2_with fail
            refine (awake_true _ (HT.out.below hBw)).mono ?_
            rintro e w7 ⟨rfl, hb7⟩
            go_wp2_with fail
            go_ret
            exact ⟨rfl, below_trans hBw hb7⟩
          · have hout' : (out == 0) = false := by simpa using hout
            obtain rfl : more = true := HOM.out (by omega)
            clear hout
            go_wp2_with fail
            refine (awake_true _ (HT.out.below hBw)).mono ?_
            rintro e w7 ⟨rfl, hb7⟩
            go_wp2_with fail
            go_ret
            exact ⟨rfl, below_trans hBw hb7⟩
    · have hpe' : (PE != 0) = true := by simpa using hpe
      have hpn : PN = 0 := HNONE.out hpe
      subst hpn
      clear HSOME HNONE hpe HP1 HP2 HM1
      go_wp2_with fail
      refine (awake_true _ (HT.out.below hB)).mono ?_
      rintro e w4 ⟨rfl, hb4⟩
      go_wp2_with fail
      go_ret
      exact ⟨rfl, below_trans hB hb4⟩
  · have h0' : (mostE zs (askE cx cy size cols rows zs xl xh yl yh lethal cap) cap (cellsL cx cy size cols rows xl xh yl yh) (cellsM cx cy size cols rows xl xh yl yh) == 0) = false := by simpa using h0
    have hpe : ¬ prvE zs (askE cx cy size cols rows zs xl xh yl yh lethal cap) cap (cellsL cx cy size cols rows xl xh yl yh) (cellsM cx cy size cols rows xl xh yl yh) ps out price = 0 := fun h => h0 (HSOME.out h).2.2.1
    have hpn := HNONE.out hpe
    rw [hpn] at HP2
    have hpe' : (prvE zs (askE cx cy size cols rows zs xl xh yl yh lethal cap) cap (cellsL cx cy size cols rows xl xh yl yh) (cellsM cx cy size cols rows xl xh yl yh) ps out price != 0) = true := by simpa using hpe
    clear HSOME HNONE hpe hpn h0
    generalize prvE zs (askE cx cy size cols rows zs xl xh yl yh lethal cap) cap (cellsL cx cy size cols rows xl xh yl yh) (cellsM cx cy size cols rows xl xh yl yh) ps out price = PE at *
    generalize mostQ zs (askE cx cy size cols rows zs xl xh yl yh lethal cap) cap (cellsL cx cy size cols rows xl xh yl yh) (cellsM cx cy size cols rows xl xh yl yh) = Q at *
    generalize mostO zs (askE cx cy size cols rows zs xl xh yl yh lethal cap) cap (cellsL cx cy size cols rows xl xh yl yh) (cellsM cx cy size cols rows xl xh yl yh) = O at *
    generalize mostP zs (askE cx cy size cols rows zs xl xh yl yh lethal cap) cap (cellsL cx cy size cols rows xl xh yl yh) (cellsM cx cy size cols rows xl xh yl yh) = P at *
    generalize mostN zs (askE cx cy size cols rows zs xl xh yl yh lethal cap) cap (cellsL cx cy size cols rows xl xh yl yh) (cellsM cx cy size cols rows xl xh yl yh) = N at *
    generalize mostE zs (askE cx cy size cols rows zs xl xh yl yh lethal cap) cap (cellsL cx cy size cols rows xl xh yl yh) (cellsM cx cy size cols rows xl xh yl yh) = E at *
    go_enter Tryz.func18, Tryz.ntmps18
    go_wp2_with fail
    obtain ⟨hM, hX, hz, hB⟩ := alloc2 w #[.int .i64 cx, .int .i64 cy, .int .i64 size, .int .i64 cols, .int .i64 rows, .slice a zs.length c] #[.int .i64 xl, .int .i64 xh, .int .i64 yl, .int .i64 yh, .int .i64 lethal, .int .i64 cap, .slice a2 ps.length c2, .int .i64 out, .int .i64 price] 42 49
    clear hz
    generalize (w.alloc (.cells #[.int .i64 cx, .int .i64 cy, .int .i64 size, .int .i64 cols, .int .i64 rows, .slice a zs.length c] 42)).alloc (.cells #[.int .i64 xl, .int .i64 xh, .int .i64 yl, .int .i64 yh, .int .i64 lethal, .int .i64 cap, .slice a2 ps.length c2, .int .i64 out, .int .i64 price] 49) = W0 at *
    refine (HM1.out _ (HV.out.below hB)).mono ?_
    rintro e w1 ⟨v1, rfl, hq1, hb1⟩
    obtain ⟨va, vc, rfl, hx⟩ := id hq1
    clear hx
    have hR := cellsNew w1 #[.slice va Q.length vc, .int .i64 O, .int .i64 P] 47
    have hb1 := balloc hb1 (.cells #[.slice va Q.length vc, .int .i64 O, .int .i64 P] 47)
    have HQ1 := Lib.hid (hq1.below (balloc (Below.refl _ _) (.cells #[.slice va Q.length vc, .int .i64 O, .int .i64 P] 47)))
    clear hq1
    have hM := hM.below hb1
    have hX := hX.below hb1
    have hB := below_trans hB hb1
    obtain ⟨m0, m1, m2, m3, m4, m5⟩ := cells6 hM
    obtain ⟨x0, x1, x2, x3, x4, x5, x6, x7, x8⟩ := cells9 hX
    clear hR HQ1
    go_wp2_with fail
    refine (HP2.out _ (HV.out.below hB) (HS.out.below hB)).mono ?_
    rintro e w2 ⟨rfl, hb2⟩
    have hB := below_trans hB hb2
    go_wp2_with fail
    refine (awake_true _ (HT.out.below hB)).mono ?_
    rintro e w3 ⟨rfl, hb3⟩
    go_wp2_with fail
    go_ret
    exact ⟨rfl, below_trans hB hb3⟩
end Go.Proofs.YtmglbegbijofkaaGreatDoor
