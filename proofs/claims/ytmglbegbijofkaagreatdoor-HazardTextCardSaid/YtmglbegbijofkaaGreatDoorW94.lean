import Derived.Test.YtmglbegbijofkaaGreatDoorW90
import Derived.Test.YtmglbegbijofkaaGreatDoorW92
import Derived.Test.YtmglbegbijofkaaGreatDoorW22
set_option linter.unusedVariables false
set_option linter.unusedSimpArgs false
namespace Go.Proofs.YtmglbegbijofkaaGreatDoor
open Go.RowKit Go.Shelf
theorem strs_one (w : World) (s : List UInt8) : StrsAt (w.alloc (.cells #[.string ⟨s.toArray⟩] 9)) (.slice (some ⟨w.heap.size, 0, none⟩) 1 1) [s] := by
  refine ⟨_, _, rfl, .inr ⟨w.heap.size, 0, rfl, by simp, fun i hi => ?_⟩⟩
  obtain rfl : i = 0 := by simp at hi; omega
  exact (cellsNew w #[.string ⟨s.toArray⟩] 9).cell 0
theorem text_len {x : Impact} {number margin slack : Int} (h : noticeE x number margin slack = 0) : (noticeS x number margin slack).length ≤ 400 := by
  obtain ⟨h1, h2, h3, h4⟩ := noticeE_zero h
  obtain ⟨hs, hn, hm, hl⟩ := noticeBad_false.1 h1
  obtain ⟨g0, ⟨⟨g1, g2, g3⟩, g4, g5, g6⟩, g7, g8, g9, g10⟩ := strangeB_false.1 hs
  obtain ⟨p1, p2, p3, p4⟩ := km_bd x.xl margin (by omega) (by omega) hm.1 hm.2
  obtain ⟨p5, p6, p7, p8⟩ := km_bd x.xh margin (by omega) (by omega) hm.1 hm.2
  obtain ⟨r1, r2, r3, r4⟩ := km_bd x.yl margin (by omega) (by omega) hm.1 hm.2
  obtain ⟨r5, r6, r7, r8⟩ := km_bd x.yh margin (by omega) (by omega) hm.1 hm.2
  rw [h4]
  exact notice_len x number margin slack (by omega) hn.2 (by omega) (by omega) hl.1 hl.2 p1 p2 p7 p8 r1 r2 r7 r8
theorem text_cov {x : Impact} {number margin slack : Int} (h : noticeE x number margin slack = 0) : covE [noticeS x number margin slack] x = 0 ∧ covN [noticeS x number margin slack] x = number := by
  obtain ⟨h1, _, _, _⟩ := noticeE_zero h
  obtain ⟨hs, _⟩ := noticeBad_false.1 h1
  obtain ⟨p1, p2⟩ := text_parse h
  obtain ⟨f1, f2⟩ := force_one p1 (by rw [p2]; rfl)
  have e : covE [noticeS x number margin slack] x = 0 := by unfold covE; rw [f1, hs]; simp
  refine ⟨e, ?_⟩
  unfold covN
  rw [if_pos e, f2, p2, List.filter_cons, if_pos (text_covers h)]
  rfl
theorem cells8x {W : World} {b : Nat} {t : TypeId} {a0 a1 a2 a3 a4 a5 a6 a7 : Value} (h : cellsAt W b t #[a0, a1, a2, a3, a4, a5, a6, a7]) : W.cell? ⟨b, 0, none⟩ = some a0 ∧ W.cell? ⟨b, 1, none⟩ = some a1 ∧ W.cell? ⟨b, 2, none⟩ = some a2 ∧ W.cell? ⟨b, 3, none⟩ = some a3 ∧ W.cell? ⟨b, 4, none⟩ = some a4 ∧ W.cell? ⟨b, 5, none⟩ = some a5 ∧ W.cell? ⟨b, 6, none⟩ = some a6 ∧ W.cell? ⟨b, 7, none⟩ = some a7 :=
  ⟨h.cell 0, h.cell 1, h.cell 2, h.cell 3, h.cell 4, h.cell 5, h.cell 6, h.cell 7⟩
set_option maxRecDepth 100000 in
set_option maxHeartbeats 4000000 in
theorem law14 (x : Impact) (n0 n1 n2 a b : Int) (a0 : 0 ≤ a) (a1 : a ≤ 65535) (b0 : 0 ≤ b) (b1 : b ≤ 65535) (w : World) (ht : Tab10 w) :
    Calls Tryz.prog 14 #[.agg #[.int .i64 x.p, .int .i64 x.xl, .int .i64 x.xh, .int .i64 x.yl, .int .i64 x.yh, .int .i64 x.tl, .int .i64 x.th], .agg #[.int .i64 n0, .int .i64 n1, .int .i64 n2], .agg #[.int .u16 a, .int .u16 b]] w fun e w' => e = .returned (.bool true) ∧ Below w.heap.size w w' := by
  have HT := Lib.hid ht
  clear ht
  have HN1 := Lib.hid (fun W (h : Tab10 W) => notice_any x n0 n1 n2 W h)
  unfold NoticeEnd at HN1
  by_cases hE : noticeE x n0 n1 n2 = 0
  · obtain ⟨hbad, -, -, -⟩ := noticeE_zero hE
    obtain ⟨hs, ⟨n00, n01⟩, ⟨n10, n11⟩, n20, n21⟩ := noticeBad_false.1 hbad
    have hlen := text_len hE
    obtain ⟨p1, p2⟩ := text_parse hE
    have HP1 := Lib.hid (fun W => parse_any (noticeS x n0 n1 n2) (by omega) W)
    unfold ParseEnd at HP1
    rw [p1, p2] at HP1
    obtain ⟨c1, c2⟩ := text_cov hE
    have HC1 := Lib.hid (fun W v (h : StrsAt W v [noticeS x n0 n1 n2]) => hcovers_any [noticeS x n0 n1 n2] v x W h (fun s hs => by simp at hs; subst hs; omega) (by simp))
    rw [c1, c2] at HC1
    obtain ⟨m', hm'⟩ : ∃ m', min 2000000000 (n1 + 1000 * a) = m' := ⟨_, rfl⟩
    obtain ⟨s', hs'⟩ : ∃ s', min 100000 (n2 + b) = s' := ⟨_, rfl⟩
    obtain ⟨t0, tf, tu, t3, t4, t5, t6⟩ := text_more hE (margin' := m') (slack' := s') (by omega) (by omega) (by omega) (by omega)
    have HN2 := Lib.hid (fun W (h : Tab10 W) => notice_any x n0 m' s' W h)
    unfold NoticeEnd at HN2
    unfold ntV ntc at HP1
    rw [show (ntOf x n0 n1 n2).n = n0 from rfl, show (ntOf x n0 n1 n2).c = false from rfl] at HP1
    have o0 := IntWalk.i64_in a ⟨by omega, by omega⟩
    have o1 := IntWalk.i64_in b ⟨by omega, by omega⟩
    have o2 := IntWalk.i64_in (1000 * a) ⟨by omega, by omega⟩
    have o3 := IntWalk.i64_in (n1 + 1000 * a) ⟨by omega, by omega⟩
    have o4 := IntWalk.i64_in (n2 + b) ⟨by omega, by omega⟩
    rw [hE] at HN1
    by_cases hE2 : noticeE x n0 m' s' = 0
    · have hlen2 := text_len hE2
      obtain ⟨p3, p4⟩ := text_parse hE2
      have HP2 := Lib.hid (fun W => parse_any (noticeS x n0 m' s') (by omega) W)
      unfold ParseEnd at HP2
      rw [p3, p4] at HP2
      obtain ⟨c3, c4⟩ := text_cov hE2
      have HC2 := Lib.hid (fun W v (h : StrsAt W v [noticeS x n0 m' s']) => hcovers_any [noticeS x n0 m' s'] v x W h (fun s hs => by simp at hs; subst hs; omega) (by simp))
      rw [c3, c4] at HC2
      unfold ntV ntc at HP2
      rw [show (ntOf x n0 m' s').n = n0 from rfl, show (ntOf x n0 m' s').c = false from rfl] at HP2
      rw [hE2] at HN2
      unfold bstr at HN1 HN2
      clear hE hE2 p1 p2 p3 p4 c1 c2 c3 c4 hlen hlen2 hbad hs t0
      generalize noticeS x n0 n1 n2 = S at *
      generalize noticeS x n0 m' s' = S2 at *
      generalize (ntOf x n0 n1 n2).f = f1 at *
      generalize (ntOf x n0 n1 n2).u = g1 at *
      generalize (ntOf x n0 n1 n2).xl = a1 at *
      generalize (ntOf x n0 n1 n2).xh = b1 at *
      generalize (ntOf x n0 n1 n2).yl = c1 at *
      generalize (ntOf x n0 n1 n2).yh = e1 at *
      generalize (ntOf x n0 m' s').f = f2 at *
      generalize (ntOf x n0 m' s').u = g2 at *
      generalize (ntOf x n0 m' s').xl = a2 at *
      generalize (ntOf x n0 m' s').xh = b2 at *
      generalize (ntOf x n0 m' s').yl = c2 at *
      generalize (ntOf x n0 m' s').yh = e2 at *
      obtain ⟨xp, xxl, xxh, xyl, xyh, xtl, xth⟩ := x
      simp only at HN1 HN2 HP1 HP2 HC1 HC2
      go_enter Tryz.func14, Tryz.ntmps14
      go_wp2_with fail
      obtain ⟨hX, hN, hM, hz, hB⟩ := alloc3 w #[.int .i64 xp, .int .i64 xxl, .int .i64 xxh, .int .i64 xyl, .int .i64 xyh, .int .i64 xtl, .int .i64 xth] #[.int .i64 n0, .int .i64 n1, .int .i64 n2] #[.int .u16 a, .int .u16 b] 27 28 107
      clear hz
      generalize ((w.alloc (.cells #[.int .i64 xp, .int .i64 xxl, .int .i64 xxh, .int .i64 xyl, .int .i64 xyh, .int .i64 xtl, .int .i64 xth] 27)).alloc (.cells #[.int .i64 n0, .int .i64 n1, .int .i64 n2] 28)).alloc (.cells #[.int .u16 a, .int .u16 b] 107) = W0 at *
      refine (HN1.out _ (HT.out.below hB)).mono ?_
      rintro e w1 ⟨rfl, hb1⟩
      have hX := hX.below hb1
      have hN := hN.below hb1
      have hM := hM.below hb1
      have hB := below_trans hB hb1
      obtain ⟨d0, d1, d2, d3, d4, d5, d6⟩ := cells7y hX
      obtain ⟨k0, k1, k2⟩ := cells3 hN
      obtain ⟨u0, u1⟩ := cells2 hM
      go_wp2_with fail
      refine (HP1.out _).mono ?_
      rintro e w2 ⟨rfl, hb2⟩
      clear d0 d1 d2 d3 d4 d5 d6 k0 k1 k2 u0 u1
      have hP := (cellsNew w2 #[.int .i64 n0, .bool false, .int .i64 f1, .int .i64 g1, .int .i64 a1, .int .i64 b1, .int .i64 c1, .int .i64 e1] 33).below (balloc (Below.refl _ _) (.cells #[.string ⟨S.toArray⟩] 9))
      have hST := strs_one (w2.alloc (.cells #[.int .i64 n0, .bool false, .int .i64 f1, .int .i64 g1, .int .i64 a1, .int .i64 b1, .int .i64 c1, .int .i64 e1] 33)) S
      have hbP : Below w2.heap.size w2 ((w2.alloc (.cells #[.int .i64 n0, .bool false, .int .i64 f1, .int .i64 g1, .int .i64 a1, .int .i64 b1, .int .i64 c1, .int .i64 e1] 33)).alloc (.cells #[.string ⟨S.toArray⟩] 9)) := balloc (balloc (Below.refl _ _) _) _
      simp only [World.size_alloc] at hST
      have hb3 := below_trans hb2 hbP
      have hX := hX.below hb3
      have hN := hN.below hb3
      have hM := hM.below hb3
      have hB := below_trans hB hb3
      obtain ⟨d0, d1, d2, d3, d4, d5, d6⟩ := cells7y hX
      obtain ⟨k0, k1, k2⟩ := cells3 hN
      obtain ⟨u0, u1⟩ := cells2 hM
      go_wp2_with fail
      generalize (w2.alloc (.cells #[.int .i64 n0, .bool false, .int .i64 f1, .int .i64 g1, .int .i64 a1, .int .i64 b1, .int .i64 c1, .int .i64 e1] 33)).alloc (.cells #[.string ⟨S.toArray⟩] 9) = W3 at *
      refine (HC1.out _ _ hST).mono ?_
      rintro e w4 ⟨rfl, hb4⟩
      clear d0 d1 d2 d3 d4 d5 d6 k0 k1 k2 u0 u1
      have hP := hP.below hb4
      have hX := hX.below hb4
      have hN := hN.below hb4
      have hM := hM.below hb4
      have hB := below_trans hB hb4
      obtain ⟨d0, d1, d2, d3, d4, d5, d6⟩ := cells7y hX
      obtain ⟨k0, k1, k2⟩ := cells3 hN
      obtain ⟨u0, u1⟩ := cells2 hM
      obtain ⟨y0, y1, y2, y3, y4, y5, y6, y7⟩ := cells8x hP
      go_wp2_with fail
      refine (HN2.out _ (HT.out.below hB)).mono ?_
      rintro e w5 ⟨rfl, hb5⟩
      clear d0 d1 d2 d3 d4 d5 d6 k0 k1 k2 u0 u1
      clear y0 y1 y2 y3 y4 y5 y6 y7
      have hP := hP.below hb5
      have hB := below_trans hB hb5
      go_wp2_with fail
      refine (HP2.out _).mono ?_
      rintro e w6 ⟨rfl, hb6⟩
      have hQ := (cellsNew w6 #[.int .i64 n0, .bool false, .int .i64 f2, .int .i64 g2, .int .i64 a2, .int .i64 b2, .int .i64 c2, .int .i64 e2] 33).below (balloc (Below.refl _ _) (.cells #[.string ⟨S2.toArray⟩] 9))
      have hST2 := strs_one (w6.alloc (.cells #[.int .i64 n0, .bool false, .int .i64 f2, .int .i64 g2, .int .i64 a2, .int .i64 b2, .int .i64 c2, .int .i64 e2] 33)) S2
      have hbQ : Below w6.heap.size w6 ((w6.alloc (.cells #[.int .i64 n0, .bool false, .int .i64 f2, .int .i64 g2, .int .i64 a2, .int .i64 b2, .int .i64 c2, .int .i64 e2] 33)).alloc (.cells #[.string ⟨S2.toArray⟩] 9)) := balloc (balloc (Below.refl _ _) _) _
      simp only [World.size_alloc] at hST2
      have hP := (hP.below hb6).below hbQ
      have hX := (((hX.below hb5)).below hb6).below hbQ
      have hN := (((hN.below hb5)).below hb6).below hbQ
      have hB := below_trans (below_trans hB hb6) hbQ
      obtain ⟨d0, d1, d2, d3, d4, d5, d6⟩ := cells7y hX
      go_wp2_with fail
      generalize (w6.alloc (.cells #[.int .i64 n0, .bool false, .int .i64 f2, .int .i64 g2, .int .i64 a2, .int .i64 b2, .int .i64 c2, .int .i64 e2] 33)).alloc (.cells #[.string ⟨S2.toArray⟩] 9) = W7 at *
      refine (HC2.out _ _ hST2).mono ?_
      rintro e w8 ⟨rfl, hb8⟩
      clear d0 d1 d2 d3 d4 d5 d6
      have hB := below_trans hB hb8
      obtain ⟨k0, k1, k2⟩ := cells3 (hN.below hb8)
      obtain ⟨y0, y1, y2, y3, y4, y5, y6, y7⟩ := cells8x (hP.below hb8)
      obtain ⟨z0, z1, z2, z3, z4, z5, z6, z7⟩ := cells8x (hQ.below hb8)
      go_wp2_with fail
      refine (awake_true _ (HT.out.below hB)).mono ?_
      rintro e w9 ⟨rfl, hb9⟩
      go_wp2_with fail
      go_ret
      exact ⟨rfl, below_trans hB hb9⟩
    · obtain he3 : noticeE x n0 m' s' = 3 := by
        rcases t0 with h | h
        · exact absurd h hE2
        · exact h
      rw [he3] at HN2
      unfold bstr at HN1 HN2
      clear hE hE2 he3 p1 p2 c1 c2 hlen hbad hs t0 tf tu t3 t4 t5 t6
      generalize noticeS x n0 n1 n2 = S at *
      generalize noticeS x n0 m' s' = S2 at *
      generalize (ntOf x n0 n1 n2).f = f1 at *
      generalize (ntOf x n0 n1 n2).u = g1 at *
      generalize (ntOf x n0 n1 n2).xl = a1 at *
      generalize (ntOf x n0 n1 n2).xh = b1 at *
      generalize (ntOf x n0 n1 n2).yl = c1 at *
      generalize (ntOf x n0 n1 n2).yh = e1 at *
      obtain ⟨xp, xxl, xxh, xyl, xyh, xtl, xth⟩ := x
      simp only at HN1 HN2 HP1 HC1
      go_enter Tryz.func14, Tryz.ntmps14
      go_wp2_with fail
      obtain ⟨hX, hN, hM, hz, hB⟩ := alloc3 w #[.int .i64 xp, .int .i64 xxl, .int .i64 xxh, .int .i64 xyl, .int .i64 xyh, .int .i64 xtl, .int .i64 xth] #[.int .i64 n0, .int .i64 n1, .int .i64 n2] #[.int .u16 a, .int .u16 b] 27 28 107
      clear hz
      generalize ((w.alloc (.cells #[.int .i64 xp, .int .i64 xxl, .int .i64 xxh, .int .i64 xyl, .int .i64 xyh, .int .i64 xtl, .int .i64 xth] 27)).alloc (.cells #[.int .i64 n0, .int .i64 n1, .int .i64 n2] 28)).alloc (.cells #[.int .u16 a, .int .u16 b] 107) = W0 at *
      refine (HN1.out _ (HT.out.below hB)).mono ?_
      rintro e w1 ⟨rfl, hb1⟩
      have hX := hX.below hb1
      have hN := hN.below hb1
      have hM := hM.below hb1
      have hB := below_trans hB hb1
      obtain ⟨d0, d1, d2, d3, d4, d5, d6⟩ := cells7y hX
      obtain ⟨k0, k1, k2⟩ := cells3 hN
      obtain ⟨u0, u1⟩ := cells2 hM
      go_wp2_with fail
      refine (HP1.out _).mono ?_
      rintro e w2 ⟨rfl, hb2⟩
      clear d0 d1 d2 d3 d4 d5 d6 k0 k1 k2 u0 u1
      have hP := (cellsNew w2 #[.int .i64 n0, .bool false, .int .i64 f1, .int .i64 g1, .int .i64 a1, .int .i64 b1, .int .i64 c1, .int .i64 e1] 33).below (balloc (Below.refl _ _) (.cells #[.string ⟨S.toArray⟩] 9))
      have hST := strs_one (w2.alloc (.cells #[.int .i64 n0, .bool false, .int .i64 f1, .int .i64 g1, .int .i64 a1, .int .i64 b1, .int .i64 c1, .int .i64 e1] 33)) S
      have hbP : Below w2.heap.size w2 ((w2.alloc (.cells #[.int .i64 n0, .bool false, .int .i64 f1, .int .i64 g1, .int .i64 a1, .int .i64 b1, .int .i64 c1, .int .i64 e1] 33)).alloc (.cells #[.string ⟨S.toArray⟩] 9)) := balloc (balloc (Below.refl _ _) _) _
      simp only [World.size_alloc] at hST
      have hb3 := below_trans hb2 hbP
      have hX := hX.below hb3
      have hN := hN.below hb3
      have hM := hM.below hb3
      have hB := below_trans hB hb3
      obtain ⟨d0, d1, d2, d3, d4, d5, d6⟩ := cells7y hX
      obtain ⟨k0, k1, k2⟩ := cells3 hN
      obtain ⟨u0, u1⟩ := cells2 hM
      go_wp2_with fail
      generalize (w2.alloc (.cells #[.int .i64 n0, .bool false, .int .i64 f1, .int .i64 g1, .int .i64 a1, .int .i64 b1, .int .i64 c1, .int .i64 e1] 33)).alloc (.cells #[.string ⟨S.toArray⟩] 9) = W3 at *
      refine (HC1.out _ _ hST).mono ?_
      rintro e w4 ⟨rfl, hb4⟩
      clear d0 d1 d2 d3 d4 d5 d6 k0 k1 k2 u0 u1
      have hP := hP.below hb4
      have hX := hX.below hb4
      have hN := hN.below hb4
      have hM := hM.below hb4
      have hB := below_trans hB hb4
      obtain ⟨d0, d1, d2, d3, d4, d5, d6⟩ := cells7y hX
      obtain ⟨k0, k1, k2⟩ := cells3 hN
      obtain ⟨u0, u1⟩ := cells2 hM
      obtain ⟨y0, y1, y2, y3, y4, y5, y6, y7⟩ := cells8x hP
      go_wp2_with fail
      refine (HN2.out _ (HT.out.below hB)).mono ?_
      rintro e w5 ⟨rfl, hb5⟩
      clear d0 d1 d2 d3 d4 d5 d6 k0 k1 k2 u0 u1
      clear y0 y1 y2 y3 y4 y5 y6 y7
      have hB := below_trans hB hb5
      go_wp2_with fail
      refine (awake_true _ (HT.out.below hB)).mono ?_
      rintro e w9 ⟨rfl, hb9⟩
      go_wp2_with fail
      go_ret
      exact ⟨rfl, below_trans hB hb9⟩
  · have hS := noticeE_ne hE
    rw [hS] at HN1
    have hE' : (noticeE x n0 n1 n2 != 0) = true := by simpa using hE
    clear hE hS
    generalize noticeE x n0 n1 n2 = E at *
    obtain ⟨xp, xxl, xxh, xyl, xyh, xtl, xth⟩ := x
    simp only at HN1
    unfold bstr at HN1
    go_enter Tryz.func14, Tryz.ntmps14
    go_wp2_with fail
    obtain ⟨hX, hN, hM, hz, hB⟩ := alloc3 w #[.int .i64 xp, .int .i64 xxl, .int .i64 xxh, .int .i64 xyl, .int .i64 xyh, .int .i64 xtl, .int .i64 xth] #[.int .i64 n0, .int .i64 n1, .int .i64 n2] #[.int .u16 a, .int .u16 b] 27 28 107
    clear hz
    generalize ((w.alloc (.cells #[.int .i64 xp, .int .i64 xxl, .int .i64 xxh, .int .i64 xyl, .int .i64 xyh, .int .i64 xtl, .int .i64 xth] 27)).alloc (.cells #[.int .i64 n0, .int .i64 n1, .int .i64 n2] 28)).alloc (.cells #[.int .u16 a, .int .u16 b] 107) = W0 at *
    refine (HN1.out _ (HT.out.below hB)).mono ?_
    rintro e w1 ⟨rfl, hb1⟩
    clear hX hN hM
    have hB := below_trans hB hb1
    go_wp2_with fail
    refine (awake_true _ (HT.out.below hB)).mono ?_
    rintro e w9 ⟨rfl, hb9⟩
    go_wp2_with fail
    go_ret
    exact ⟨rfl, below_trans hB hb9⟩
end Go.Proofs.YtmglbegbijofkaaGreatDoor
