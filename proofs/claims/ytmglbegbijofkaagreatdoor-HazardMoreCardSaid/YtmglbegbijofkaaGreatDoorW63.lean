import Derived.Test.YtmglbegbijofkaaGreatDoorWM
import Derived.Test.YtmglbegbijofkaaGreatDoorW22
set_option linter.unusedVariables false
set_option linter.unusedSimpArgs false
namespace Go.Proofs.YtmglbegbijofkaaGreatDoor
open Go.RowKit Go.Shelf Go.Sort
theorem news_ints {W : World} {pb po pc : Nat} {zs : List Int} (h : IntsAt W (.slice (some ⟨pb, po, none⟩) zs.length pc) zs) : ∀ j u, (zs.map (Value.int .i64))[j]? = some u → W.cell? ((⟨pb, po, none⟩ : Addr).add j) = some u := by
  intro j u hj
  rw [List.getElem?_map] at hj
  obtain ⟨z, hz, rfl⟩ := Option.map_eq_some_iff.1 hj
  have hjl : j < zs.length := (List.getElem?_eq_some_iff.1 hz).1
  have hadd : (⟨pb, po, none⟩ : Addr).add j = ⟨pb, po + j, none⟩ := by unfold Addr.add; split <;> simp_all
  rw [hadd]
  obtain ⟨a, c, hac, h0 | ⟨b, off, rfl, hb, hc⟩⟩ := h
  · omega
  · simp only [Value.slice.injEq, Option.some.injEq, Addr.mk.injEq] at hac
    obtain ⟨⟨rfl, rfl, _⟩, _, rfl⟩ := hac
    have := hc j (by omega)
    unfold intF at this
    rw [this, hz]; rfl
set_option maxRecDepth 100000 in
set_option maxHeartbeats 4000000 in
theorem law4 (cx cy size cols rows : Int) (pv : Value) (zs : List Int) (xl xh yl yh lethal cap : Int) (sv : Value) (out price b0 b1 b2 b3 : Int) (w : World) (hv : IntsAt w pv zs) (hn : zs.length ≤ 9223372036854775806)
    (hb0 : 0 ≤ b0 ∧ b0 ≤ 65535) (hb1 : 0 ≤ b1 ∧ b1 ≤ 65535) (hb2 : 0 ≤ b2 ∧ b2 ≤ 65535) (hb3 : 0 ≤ b3 ∧ b3 ≤ 65535) (ht : Tab10 w) :
    Calls Tryz.prog 4 #[.agg #[.int .i64 cx, .int .i64 cy, .int .i64 size, .int .i64 cols, .int .i64 rows, pv], .agg #[.int .i64 xl, .int .i64 xh, .int .i64 yl, .int .i64 yh, .int .i64 lethal, .int .i64 cap, sv, .int .i64 out, .int .i64 price], .agg #[.int .u16 b0, .int .u16 b1, .int .u16 b2, .int .u16 b3]] w fun e w' => e = .returned (.bool true) ∧ Below w.heap.size w w' := by
  obtain ⟨pa, pc, rfl, hx⟩ := id hv
  have HT := Lib.hid ht
  have HV := Lib.hid hv
  have HM1 := Lib.hid (fun W (hW : IntsAt W (.slice pa zs.length pc) zs) => most_num cx cy size cols rows _ zs xl xh yl yh lethal cap W hW hn)
  clear hv ht
  unfold MostNum at HM1
  by_cases h0 : mE cx cy size cols rows zs xl xh yl yh lethal cap = 0
  · have k := mE_ok h0
    obtain ⟨⟨v1, v2, v3⟩, v4, v5, v6⟩ := wildB_false.1 k.wild
    obtain ⟨v9, v10⟩ := outB_false.1 k.capb
    have hn0 : 0 < zs.length := k.cells.n0
    have hn4 : zs.length ≤ 400 := k.cells.n4
    have hz := k.cells.z
    obtain ⟨ib, hib⟩ : ∃ i : Nat, (i : Int) = b0 % (zs.length : Int) := ⟨(b0 % (zs.length : Int)).toNat, Int.toNat_of_nonneg (Int.emod_nonneg _ (by omega))⟩
    have hil : ib < zs.length := by
      have := Int.emod_lt_of_pos b0 (show (0 : Int) < (zs.length : Int) by omega)
      omega
    have hzi : 0 ≤ zs.getD ib 0 ∧ zs.getD ib 0 ≤ 1000000 := by
      rw [List.getD_eq_getElem?_getD, List.getElem?_eq_getElem hil]; exact hz _ (List.getElem_mem hil)
    obtain ⟨po1, po2, hpa⟩ : ∃ pb po, pa = some ⟨pb, po, none⟩ := by
      rcases hx with h | ⟨b, off, h, _⟩
      · omega
      · exact ⟨b, off, h⟩
    subst hpa
    obtain ⟨v, hvv⟩ : ∃ v, min 1000000 (zs.getD ib 0 + b1) = v := ⟨_, rfl⟩
    obtain ⟨cap', hcc⟩ : ∃ v, min 1000000 (cap + b2) = v := ⟨_, rfl⟩
    obtain ⟨xh', hxx⟩ : ∃ v, min 2000000000 (xh + 1000 * b3) = v := ⟨_, rfl⟩
    obtain ⟨yl', hyy⟩ : ∃ v, max (-2000000000) (yl - 1000 * b3) = v := ⟨_, rfl⟩
    obtain ⟨p1, p2⟩ := more_people h0 hil (v := v) (by omega) (by omega)
    obtain ⟨q1, q2⟩ := more_cap h0 (cap' := cap') (by omega) (by omega)
    obtain ⟨r1, r2⟩ := more_area h0 (xh' := xh') (yl' := yl') (by omega) (by omega) (by omega) (by omega)
    have HM2 := Lib.hid (fun W pv (hW : IntsAt W pv (zs.set ib v)) => most_num cx cy size cols rows pv (zs.set ib v) xl xh yl yh lethal cap W hW (by rw [List.length_set]; exact hn))
    have HM3 := Lib.hid (fun W (hW : IntsAt W (.slice (some ⟨po1, po2, none⟩) zs.length pc) zs) => most_num cx cy size cols rows _ zs xl xh yl yh lethal cap' W hW hn)
    have HM4 := Lib.hid (fun W (hW : IntsAt W (.slice (some ⟨po1, po2, none⟩) zs.length pc) zs) => most_num cx cy size cols rows _ zs xl xh' yl' yh lethal cap W hW hn)
    unfold MostNum at HM2 HM3 HM4
    rw [h0] at HM1
    rw [p1] at HM2
    rw [q1] at HM3
    rw [r1] at HM4
    generalize mN cx cy size cols rows zs xl xh yl yh lethal cap = N1 at *
    generalize mN cx cy size cols rows (zs.set ib v) xl xh yl yh lethal cap = N2 at *
    generalize mN cx cy size cols rows zs xl xh yl yh lethal cap' = N3 at *
    generalize mN cx cy size cols rows zs xl xh' yl' yh lethal cap = N4 at *
    have HIB := Lib.hid hib
    have HVV := Lib.hid hvv
    have HCC := Lib.hid hcc
    have HXX := Lib.hid hxx
    have HYY := Lib.hid hyy
    have hn0' : ((zs.length : Int) == 0) = false := beq_eq_false_iff_ne.2 (by omega)
    have HZ := Lib.hid hz
    obtain ⟨i0, hi, hz0, hz1, hz2⟩ := info_parts Tryz.info3
    clear h0 k hx p1 q1 r1 hib hvv hcc hxx hyy hz
    go_enter Tryz.func4, Tryz.ntmps4
    go_wp2_with fail
    obtain ⟨hM, hX, hY, hzz, hB⟩ := alloc3 w #[.int .i64 cx, .int .i64 cy, .int .i64 size, .int .i64 cols, .int .i64 rows, .slice (some ⟨po1, po2, none⟩) zs.length pc] #[.int .i64 xl, .int .i64 xh, .int .i64 yl, .int .i64 yh, .int .i64 lethal, .int .i64 cap, sv, .int .i64 out, .int .i64 price] #[.int .u16 b0, .int .u16 b1, .int .u16 b2, .int .u16 b3] 42 49 51
    generalize ((w.alloc (.cells #[.int .i64 cx, .int .i64 cy, .int .i64 size, .int .i64 cols, .int .i64 rows, .slice (some ⟨po1, po2, none⟩) zs.length pc] 42)).alloc (.cells #[.int .i64 xl, .int .i64 xh, .int .i64 yl, .int .i64 yh, .int .i64 lethal, .int .i64 cap, sv, .int .i64 out, .int .i64 price] 49)).alloc (.cells #[.int .u16 b0, .int .u16 b1, .int .u16 b2, .int .u16 b3] 51) = W0 at *
    refine (HM1.out _ (HV.out.below hB)).mono ?_
    rintro e w1 ⟨va, vm, vc, o1, o2, rfl, hb1⟩
    have hzs1 : w.heap.size + 3 ≤ w1.heap.size := by have := hb1.size; omega
    have hlt0 : w.heap.size < w1.heap.size := by omega
    have hlt1 : w.heap.size + 1 < w1.heap.size := by omega
    have hlt2 : w.heap.size + 1 + 1 < w1.heap.size := by omega
    clear hzz
    have hM := hM.below hb1
    have hX := hX.below hb1
    have hY := hY.below hb1
    have hB := below_trans hB hb1
    obtain ⟨m0, m1, m2, m3, m4, m5⟩ := cells6 hM
    clear hb1
    go_upto_region 5 with fail
    have hN := cellsNew (w1.alloc (.cells #[.slice va vm vc, .int .i64 o1, .int .i64 o2] 47)) #[.int .i64 cx, .int .i64 cy, .int .i64 size, .int .i64 cols, .int .i64 rows, .slice (some ⟨po1, po2, none⟩) zs.length pc] 42
    rw [World.size_alloc] at hN
    have hb2 : Below w1.heap.size w1 ((w1.alloc (.cells #[.slice va vm vc, .int .i64 o1, .int .i64 o2] 47)).alloc (.cells #[.int .i64 cx, .int .i64 cy, .int .i64 size, .int .i64 cols, .int .i64 rows, .slice (some ⟨po1, po2, none⟩) zs.length pc] 42)) := (by repeat (first | exact Below.refl _ _ | assumption | refine balloc ?_ _ | refine below_trans ?_ (by assumption) | refine Below.drew ?_ | refine below_drewN ?_ _ | refine Below.setCell ?_ (by simp <;> omega) _))
    have hsz4 : ((w1.alloc (.cells #[.slice va vm vc, .int .i64 o1, .int .i64 o2] 47)).alloc (.cells #[.int .i64 cx, .int .i64 cy, .int .i64 size, .int .i64 cols, .int .i64 rows, .slice (some ⟨po1, po2, none⟩) zs.length pc] 42)).heap.size = w1.heap.size + 2 := by simp
    generalize (w1.alloc (.cells #[.slice va vm vc, .int .i64 o1, .int .i64 o2] 47)).alloc (.cells #[.int .i64 cx, .int .i64 cy, .int .i64 size, .int .i64 cols, .int .i64 rows, .slice (some ⟨po1, po2, none⟩) zs.length pc] 42) = W4 at *
    clear m0 m1 m2 m3 m4 m5
    have hM := hM.below hb2
    have hX := hX.below hb2
    have hY := hY.below hb2
    have hB := below_trans hB hb2
    have hsz4' : w1.heap.size + 1 < W4.heap.size := by omega
    have hsz0' : w.heap.size < W4.heap.size := by omega
    have HNB : Hid (w.heap.size + 3 ≤ w1.heap.size) := show _ ≤ _ from hzs1
    clear hsz4 hb2 hlt0 hlt1 hlt2 hzs1
    have hnb3 : w.heap.size + 3 ≤ w1.heap.size + 1 := by have := HNB.out; omega
    clear HNB
    generalize w1.heap.size + 1 = nb at *
    obtain ⟨m0, m1, m2, m3, m4, m5⟩ := cells6 hM
    have hown : (W4.alloc (.cells #[] 3)).ownsRow w.heap.size 3 1 (.slice (some ⟨W4.heap.size, 0, none⟩) 0 0) 0 [] := owns_new W4 #[] 3 w.heap.size (by omega) (by simp)
    have HNW : Hid (∀ j u, (zs.map (Value.int .i64))[j]? = some u → (W4.alloc (.cells #[] 3)).cell? ((⟨po1, po2, none⟩ : Addr).add j) = some u) := show ∀ _ _, _ from news_ints (HV.out.below (balloc hB _))
    go_wp2_with (at_builtin; refine wpList_append_lies _ (by rfl) _ _ _ (by rfl) w.heap.size 3 i0 _ 1 8 Tryz.underlying40 hi hz0 hz1 hz2 rfl (by decide) (.slice (some ⟨W4.heap.size, 0, none⟩) 0 0) 0 _ (by rfl) hown ⟨po1, po2, none⟩ zs.length pc (zs.map (Value.int .i64)) (by rfl) (by simp) HNW.out (by intro u hu; obtain ⟨z, _, rfl⟩ := List.mem_map.1 hu; rfl) (by omega) (by unfold maxLen; omega) (by omega) (by simp; omega) (W4.heap.size + 1) (by simp) ?_)
    intro g cap5 w5 hown5 hgrow hat hlt5
    have hgv : (Value.slice (some ⟨W4.heap.size, 0, none⟩) 0 0).ownBlock = some W4.heap.size := rfl
    rw [hgv] at hgrow hat
    have hg5 : W4.heap.size ≤ g := by
      rcases hat with h | h
      · have := Option.some.inj h; omega
      · omega
    have hrf : Below W4.heap.size W4 (W4.alloc (.cells #[] 3)) := balloc (Below.refl _ _) _
    have hN5 := (hN.below hrf).grown hgrow (by omega)
    have hM5 := (hM.below hrf).grown hgrow (by omega)
    have hX5 := (hX.below hrf).grown hgrow (by omega)
    have hY5 := (hY.below hrf).grown hgrow (by omega)
    have hB5 : Below w.heap.size w w5 := (balloc hB _).grown hgrow (by simp; omega) (fun k e => by cases e; omega)
    clear hgv hgrow hat hrf hN hM hX hY hB hown HNW m0 m1 m2 m3 m4 m5
    have hgnb : nb ≠ g := by omega
    have hsz5 : nb < w5.heap.size := hN5.lt
    have f5 := hN5.frozen 5
    obtain ⟨k0, k1, k2, k3, k4, k5⟩ := cells6 hN5
    as_aux_lemma =>
      go_upto_region 6 with fail
      have hN6 := hN5.set 5 (.slice (some ⟨g, 0, none⟩) zs.length cap5)
      simp only [List.setIfInBounds_toArray, List.set_cons_zero, List.set_cons_succ] at hN6
      have hM6 := hM5.set_other (p := ⟨nb, 5, none⟩) (by show nb ≠ _; omega) (.slice (some ⟨g, 0, none⟩) zs.length cap5)
      have hX6 := hX5.set_other (p := ⟨nb, 5, none⟩) (by show nb ≠ _; omega) (.slice (some ⟨g, 0, none⟩) zs.length cap5)
      have hY6 := hY5.set_other (p := ⟨nb, 5, none⟩) (by show nb ≠ _; omega) (.slice (some ⟨g, 0, none⟩) zs.length cap5)
      have hown6 := hown5.kept (set1_grown w5 nb 5 (.slice (some ⟨g, 0, none⟩) zs.length cap5)) (.inr (fun e => by simp [Value.ownBlock] at e; omega))
      have hB6 := hB5.setCell (p := ⟨nb, 5, none⟩) (by show w.heap.size ≤ nb; omega) (.slice (some ⟨g, 0, none⟩) zs.length cap5)
      clear hN5 hM5 hX5 hY5 hown5 hB5 f5 k0 k1 k2 k3 k4 k5 hsz5
      generalize w5.setCell ⟨nb, 5, none⟩ (.slice (some ⟨g, 0, none⟩) zs.length cap5) = W6 at *
      have hgc : W6.cell? ⟨g, ib, none⟩ = some (.int .i64 (zs.getD ib 0)) := by
        rw [hown6.cellAt ib (by omega), List.getElem?_map, List.getElem?_eq_getElem hil]
        simp [hil]
      have hgf := hown6.frozenAt ib
      have HVX : Hid (min 1000000 (zs.getD ib 0 + b1) = v) := show _ = _ from HVV.out
      generalize zs.getD ib 0 = x at *
      obtain ⟨n0, n1, n2, n3, n4, n5⟩ := cells6 hN6
      obtain ⟨y0, y1, y2, y3⟩ := cells4 hY6
      obtain ⟨bl0, bh0⟩ := hb0
      obtain ⟨bl1, bh1⟩ := hb1
      obtain ⟨zl, zh⟩ := hzi
      go_upto_region 7 with fail
      rw [← HIB.out]
      have hvx := HVX.out
      have oa := IntWalk.i64_in (x + b1) ⟨by omega, by omega⟩
      have i1 : (0 : Int) ≤ (ib : Int) := by omega
      have i2 : (ib : Int) < (zs.length : Int) := by omega
      go_region
      go_upto_region 8 with fail
      have hown7 := (hown6.stored ib (.int .i64 v)).1.drew
      have hI7 : IntsAt (W6.setCell ⟨g, ib, none⟩ (.int .i64 v)).drew (.slice (some ⟨g, 0, none⟩) zs.length cap5) (zs.set ib v) := by
        have h := ints_at_row (l := zs.set ib v) (w := (W6.setCell ⟨g, ib, none⟩ (.int .i64 v)).drew) (B := w.heap.size) (v := .slice (some ⟨g, 0, none⟩) zs.length cap5) (by rw [List.length_set, List.map_set]; exact hown7)
        exact h
      have HI7 := Lib.hid hI7
      have hN7 := (hN6.set_other (p := ⟨g, ib, none⟩) (by show g ≠ nb; omega) (.int .i64 v)).drew
      have hM7 := (hM6.set_other (p := ⟨g, ib, none⟩) (by show g ≠ _; omega) (.int .i64 v)).drew
      have hX7 := (hX6.set_other (p := ⟨g, ib, none⟩) (by show g ≠ _; omega) (.int .i64 v)).drew
      have hY7 := (hY6.set_other (p := ⟨g, ib, none⟩) (by show g ≠ _; omega) (.int .i64 v)).drew
      have hB7 := (hB6.setCell (p := ⟨g, ib, none⟩) (by show w.heap.size ≤ g; omega) (.int .i64 v)).drew
      clear hown6 hown7 hI7 hN6 hM6 hX6 hY6 hB6 hgc hgf n0 n1 n2 n3 n4 n5 y0 y1 y2 y3 hvx oa i1 i2
      generalize (W6.setCell ⟨g, ib, none⟩ (.int .i64 v)).drew = W7 at *
      obtain ⟨n0, n1, n2, n3, n4, n5⟩ := cells6 hN7
      obtain ⟨x0, x1, x2, x3, x4, x5, x6, x7, x8⟩ := cells9 hX7
      have HM7 := Lib.hid hM7
      have HX7 := Lib.hid hX7
      have HY7 := Lib.hid hY7
      clear hM7 hX7 hY7 hN7
      as_aux_lemma =>
        go_wp2_with fail
        refine (HM2.out W7 _ HI7.out).mono ?_
        rintro e w8 ⟨vb, vbm, vbc, o3, o4, rfl, hb8⟩
        have hM8 := HM7.out.below hb8
        have hX8 := HX7.out.below hb8
        have hY8 := HY7.out.below hb8
        have hB8 := below_trans hB7 hb8
        have hz8 := hb8.size
        clear n0 n1 n2 n3 n4 n5 x0 x1 x2 x3 x4 x5 x6 x7 x8 hb8 hB7
        obtain ⟨x0, x1, x2, x3, x4, x5, x6, x7, x8⟩ := cells9 hX8
        obtain ⟨y0, y1, y2, y3⟩ := cells4 hY8
        have hz8a : w.heap.size + 1 < w8.heap.size := hX8.lt
        have hz8b : w.heap.size + 1 + 1 < w8.heap.size := hY8.lt
        have hz8c : w.heap.size < w8.heap.size := hM8.lt
        obtain ⟨bl2, bh2⟩ := hb2
        obtain ⟨bl3, bh3⟩ := hb3
        have hcx := HCC.out
        go_upto_region 11 with fail
        as_aux_lemma =>
          have hL9 := cellsNew (w8.alloc (.cells #[.slice vb vbm vbc, .int .i64 o3, .int .i64 o4] 47)) #[.int .i64 lethal, .int .i64 cap'] 44
          rw [World.size_alloc] at hL9
          have hb9 : Below w8.heap.size w8 ((w8.alloc (.cells #[.slice vb vbm vbc, .int .i64 o3, .int .i64 o4] 47)).alloc (.cells #[.int .i64 lethal, .int .i64 cap'] 44)) := (by repeat (first | exact Below.refl _ _ | assumption | refine balloc ?_ _ | refine below_trans ?_ (by assumption) | refine Below.drew ?_ | refine below_drewN ?_ _ | refine Below.setCell ?_ (by simp <;> omega) _))
          generalize (w8.alloc (.cells #[.slice vb vbm vbc, .int .i64 o3, .int .i64 o4] 47)).alloc (.cells #[.int .i64 lethal, .int .i64 cap'] 44) = W9 at *
          clear x0 x1 x2 x3 x4 x5 x6 x7 x8 y0 y1 y2 y3 hcx hz8a hz8b hz8c
          have hM9 := hM8.below hb9
          have hX9 := hX8.below hb9
          have hY9 := hY8.below hb9
          have hB9 := below_trans hB8 hb9
          clear hM8 hX8 hY8 hB8 hb9
          obtain ⟨m0, m1, m2, m3, m4, m5⟩ := cells6 hM9
          obtain ⟨x0, x1, x2, x3, x4, x5, x6, x7, x8⟩ := cells9 hX9
          obtain ⟨l0, l1⟩ := cells2 hL9
          go_wp2_with fail
          refine (HM3.out W9 (HV.out.below hB9)).mono ?_
          rintro e w10 ⟨vb, vbm, vbc, o5, o6, rfl, hbA⟩
          have hMA := hM9.below hbA
          have hXA := hX9.below hbA
          have hYA := hY9.below hbA
          have hBA := below_trans hB9 hbA
          clear m0 m1 m2 m3 m4 m5 x0 x1 x2 x3 x4 x5 x6 x7 x8 l0 l1 hL9 hM9 hX9 hY9 hB9 hbA hz8
          obtain ⟨x0, x1, x2, x3, x4, x5, x6, x7, x8⟩ := cells9 hXA
          have hzAa : w.heap.size + 1 < w10.heap.size := hXA.lt
          go_upto_region 13 with fail
          as_aux_lemma =>
            have hA11 := cellsNew (w10.alloc (.cells #[.slice vb vbm vbc, .int .i64 o5, .int .i64 o6] 47)) #[.int .i64 xl, .int .i64 xh, .int .i64 yl, .int .i64 yh] 25
            rw [World.size_alloc] at hA11
            have hb11 : Below w10.heap.size w10 ((w10.alloc (.cells #[.slice vb vbm vbc, .int .i64 o5, .int .i64 o6] 47)).alloc (.cells #[.int .i64 xl, .int .i64 xh, .int .i64 yl, .int .i64 yh] 25)) := (by repeat (first | exact Below.refl _ _ | assumption | refine balloc ?_ _ | refine below_trans ?_ (by assumption) | refine Below.drew ?_ | refine below_drewN ?_ _ | refine Below.setCell ?_ (by simp <;> omega) _))
            generalize (w10.alloc (.cells #[.slice vb vbm vbc, .int .i64 o5, .int .i64 o6] 47)).alloc (.cells #[.int .i64 xl, .int .i64 xh, .int .i64 yl, .int .i64 yh] 25) = W11 at *
            clear x0 x1 x2 x3 x4 x5 x6 x7 x8 hzAa
            have hM11 := hMA.below hb11
            have hX11 := hXA.below hb11
            have hY11 := hYA.below hb11
            have hB11 := below_trans hBA hb11
            have hab : w.heap.size + 3 ≤ w10.heap.size + 1 := by have := hYA.lt; omega
            clear hMA hXA hYA hBA hb11
            generalize w10.heap.size + 1 = ab at *
            obtain ⟨a0, a1, a2, a3⟩ := cells4 hA11
            obtain ⟨y0, y1, y2, y3⟩ := cells4 hY11
            have fa1 := hA11.frozen 1
            have fa2 := hA11.frozen 2
            have hxe := HXX.out
            have hye := HYY.out
            have ob := IntWalk.i64_in (1000 * b3) ⟨by omega, by omega⟩
            have oc := IntWalk.i64_in (xh + 1000 * b3) ⟨by omega, by omega⟩
            have od := IntWalk.i64_in (yl - 1000 * b3) ⟨by omega, by omega⟩
            go_region
            as_aux_lemma =>
              clear hn v1 v2 v3 v4 v5 v6 hn0 hn4 hil bl1 bh1 zl zh bl2 bh2 bl3 bh3 hg5 hgnb hnb3 HVX HVV HCC HXX HYY HIB HZ hn0' HM2 HM3 HM1 HI7
              have hA12 := ((hA11.set 1 (.int .i64 xh')).set 2 (.int .i64 yl')).drew
              simp only [List.setIfInBounds_toArray, List.set_cons_zero, List.set_cons_succ] at hA12
              have hM12 := ((hM11.set_other (p := ⟨ab, 1, none⟩) (by show ab ≠ _; omega) (.int .i64 xh')).set_other (p := ⟨ab, 2, none⟩) (by show ab ≠ _; omega) (.int .i64 yl')).drew
              have hX12 := ((hX11.set_other (p := ⟨ab, 1, none⟩) (by show ab ≠ _; omega) (.int .i64 xh')).set_other (p := ⟨ab, 2, none⟩) (by show ab ≠ _; omega) (.int .i64 yl')).drew
              have hB12 := ((hB11.setCell (p := ⟨ab, 1, none⟩) (by show w.heap.size ≤ ab; omega) (.int .i64 xh')).setCell (p := ⟨ab, 2, none⟩) (by show w.heap.size ≤ ab; omega) (.int .i64 yl')).drew
              clear a0 a1 a2 a3 y0 y1 y2 y3 fa1 fa2 hxe hye ob oc od hM11 hX11 hY11 hB11 hA11
              obtain ⟨m0, m1, m2, m3, m4, m5⟩ := cells6 hM12
              obtain ⟨x0, x1, x2, x3, x4, x5, x6, x7, x8⟩ := cells9 hX12
              obtain ⟨a0, a1, a2, a3⟩ := cells4 hA12
              go_wp2_with fail
              with_reducible refine (HM4.out _ (HV.out.below hB12)).mono ?_
              rintro e w13 ⟨vb, vbm, vbc, o7, o8, rfl, hbC⟩
              have hBC := balloc (below_trans hB12 hbC) (.cells #[.slice vb vbm vbc, .int .i64 o7, .int .i64 o8] 47)
              clear m0 m1 m2 m3 m4 m5 x0 x1 x2 x3 x4 x5 x6 x7 x8 a0 a1 a2 a3 hM12 hX12 hA12 hB12 hbC
              go_wp2_with fail
              refine (awake_true _ (HT.out.below hBC)).mono ?_
              rintro e w14 ⟨rfl, hbD⟩
              go_wp2_with fail
              go_ret
              exact ⟨rfl, below_trans hBC hbD⟩
  · have h0' : (mE cx cy size cols rows zs xl xh yl yh lethal cap != 0) = true := by simpa using h0
    clear hx h0
    generalize mE cx cy size cols rows zs xl xh yl yh lethal cap = E at *
    generalize mN cx cy size cols rows zs xl xh yl yh lethal cap = N at *
    go_enter Tryz.func4, Tryz.ntmps4
    go_wp2_with fail
    obtain ⟨hM, hX, hY, hzz, hB⟩ := alloc3 w #[.int .i64 cx, .int .i64 cy, .int .i64 size, .int .i64 cols, .int .i64 rows, .slice pa zs.length pc] #[.int .i64 xl, .int .i64 xh, .int .i64 yl, .int .i64 yh, .int .i64 lethal, .int .i64 cap, sv, .int .i64 out, .int .i64 price] #[.int .u16 b0, .int .u16 b1, .int .u16 b2, .int .u16 b3] 42 49 51
    clear hzz
    generalize ((w.alloc (.cells #[.int .i64 cx, .int .i64 cy, .int .i64 size, .int .i64 cols, .int .i64 rows, .slice pa zs.length pc] 42)).alloc (.cells #[.int .i64 xl, .int .i64 xh, .int .i64 yl, .int .i64 yh, .int .i64 lethal, .int .i64 cap, sv, .int .i64 out, .int .i64 price] 49)).alloc (.cells #[.int .u16 b0, .int .u16 b1, .int .u16 b2, .int .u16 b3] 51) = W0 at *
    refine (HM1.out _ (HV.out.below hB)).mono ?_
    rintro e w1 ⟨va, vm, vc, o1, o2, rfl, hb1⟩
    have hB1 := balloc (below_trans hB hb1) (.cells #[.slice va vm vc, .int .i64 o1, .int .i64 o2] 47)
    go_wp2_with fail
    refine (awake_true _ (HT.out.below hB1)).mono ?_
    rintro e w2 ⟨rfl, hb2⟩
    go_wp2_with fail
    go_ret
    exact ⟨rfl, below_trans hB1 hb2⟩
end Go.Proofs.YtmglbegbijofkaaGreatDoor
