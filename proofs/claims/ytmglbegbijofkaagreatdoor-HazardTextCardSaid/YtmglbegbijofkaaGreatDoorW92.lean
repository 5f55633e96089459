/- Plain: what Notice writes, Parse reads; it covers the impact; a greater margin or slack gives a wider one. -/
import Derived.Test.YtmglbegbijofkaaGreatDoorW12
import Derived.Test.YtmglbegbijofkaaGreatDoorPl29
import Derived.Test.YtmglbegbijofkaaGreatDoorW89
set_option linter.unusedVariables false
set_option linter.unusedSimpArgs false
namespace Go.Proofs.YtmglbegbijofkaaGreatDoor
/-- the notice that Notice writes -/
def ntOf (x : Impact) (number margin slack : Int) : NT := ⟨number, false, max 0 (x.tl - slack), min 100000 (x.th + slack), kmLo x.xl margin, kmHi x.xh margin, kmLo x.yl margin, kmHi x.yh margin⟩
theorem noticeE_zero {x : Impact} {number margin slack : Int} (h : noticeE x number margin slack = 0) : noticeBad x number margin slack = false ∧ kmLong x.xl x.xh margin = false ∧ kmLong x.yl x.yh margin = false ∧ noticeS x number margin slack = noticeTxt x number margin slack := by
  unfold noticeE at h
  unfold noticeS
  cases hb : noticeBad x number margin slack with
  | true => rw [hb] at h; simp at h
  | false =>
    rw [hb] at h
    cases hx : kmLong x.xl x.xh margin with
    | true => rw [hx] at h; simp at h
    | false =>
      cases hy : kmLong x.yl x.yh margin with
      | true => rw [hx, hy] at h; simp at h
      | false => simp
theorem noticeE_ne {x : Impact} {number margin slack : Int} (h : ¬ noticeE x number margin slack = 0) : noticeS x number margin slack = [] := by
  unfold noticeE at h
  unfold noticeS
  split at h
  · rename_i h1; rw [if_pos h1]
  · rename_i h1
    rw [if_neg h1]
    split at h
    · rename_i h2; rw [if_pos h2]
    · exact absurd rfl h
theorem noticeBad_false {x : Impact} {number margin slack : Int} : noticeBad x number margin slack = false ↔ strangeI x = false ∧ (1 ≤ number ∧ number ≤ 9999) ∧ (0 ≤ margin ∧ margin ≤ 2000000000) ∧ 0 ≤ slack ∧ slack ≤ 100000 := by
  unfold noticeBad
  simp only [Bool.or_eq_false_iff, outB_false, and_assoc]
theorem kmLong_false {a b m : Int} : kmLong a b m = false ↔ -3000 ≤ kmLo a m ∧ kmHi b m ≤ 3000 := by
  unfold kmLong
  simp only [Bool.or_eq_false_iff, decide_eq_false_iff_not]
  omega
theorem km_ord {a b m : Int} (h : a ≤ b) (hm : 0 ≤ m) : kmLo a m ≤ kmHi b m := by unfold kmLo kmHi; omega
theorem km_mono {a m m' : Int} (h : m ≤ m') : kmLo a m' ≤ kmLo a m ∧ kmHi a m ≤ kmHi a m' := by unfold kmLo kmHi; omega
theorem km_over {a b m : Int} (hm : 0 ≤ m) : 1000000 * kmLo a m ≤ a ∧ b ≤ 1000000 * kmHi b m := by unfold kmLo kmHi; omega
theorem ntOf_ok {x : Impact} {number margin slack : Int} (h : noticeE x number margin slack = 0) : NtOK (ntOf x number margin slack) := by
  obtain ⟨h1, h2, h3, _⟩ := noticeE_zero h
  obtain ⟨hs, hn, hm, hl⟩ := noticeBad_false.1 h1
  obtain ⟨g0, ⟨⟨g1, g2, g3⟩, g4, g5, g6⟩, g7, g8, g9, g10⟩ := strangeB_false.1 hs
  obtain ⟨k1, k2⟩ := kmLong_false.1 h2
  obtain ⟨k3, k4⟩ := kmLong_false.1 h3
  have o1 := km_ord g3 hm.1
  have o2 := km_ord g6 hm.1
  refine ⟨hn.1, hn.2, ?_, ?_, ?_, k1, o1, k2, k3, o2, k4⟩ <;> (simp only [ntOf]; omega)
theorem text_parse {x : Impact} {number margin slack : Int} (h : noticeE x number margin slack = 0) : parseE (noticeS x number margin slack) = 0 ∧ parseN (noticeS x number margin slack) = ntOf x number margin slack := by
  obtain ⟨_, _, _, h4⟩ := noticeE_zero h
  rw [h4, ← noticeTxt_eq]
  have e : (txtN x number margin slack 2).map (·.data.toList) = ntWords (ntOf x number margin slack) := by
    simp [txtN, txt0, txtS, bstr, ntWords, ntOf, wNOTICE, wFROM, wUNTIL, wX, wY]
  rw [e]
  exact parse_written rfl (ntOf_ok h)
theorem text_covers {x : Impact} {number margin slack : Int} (h : noticeE x number margin slack = 0) : covB x (ntOf x number margin slack) = true := by
  obtain ⟨h1, h2, h3, _⟩ := noticeE_zero h
  obtain ⟨hs, hn, hm, hl⟩ := noticeBad_false.1 h1
  obtain ⟨g0, ⟨⟨g1, g2, g3⟩, g4, g5, g6⟩, g7, g8, g9, g10⟩ := strangeB_false.1 hs
  obtain ⟨o1, o2⟩ := km_over (a := x.xl) (b := x.xh) hm.1
  obtain ⟨o3, o4⟩ := km_over (a := x.yl) (b := x.yh) hm.1
  unfold covB overB ntOf
  simp only [Bool.and_eq_true, decide_eq_true_eq]
  refine ⟨⟨⟨?_, ?_⟩, o1, o2⟩, o3, o4⟩ <;> omega
theorem force_one {s : List UInt8} (h : parseE s = 0) (hc : (parseN s).c = false) : forceE [s] = 0 ∧ forceL [s] = [parseN s] := by
  have h1 : forceR [s] [] = (0, [parseN s]) := by
    rw [forceR_cons, if_neg (by rw [h]; simp), if_neg (by rw [hc]; simp)]; rfl
  have h2 : ¬ 60 < [s].length := by simp
  exact ⟨by unfold forceE; rw [if_neg h2, h1], by unfold forceL; rw [if_neg h2, h1]⟩
theorem text_more {x : Impact} {number margin slack margin' slack' : Int} (h : noticeE x number margin slack = 0) (h1 : margin ≤ margin') (h2 : margin' ≤ 2000000000) (h3 : slack ≤ slack') (h4 : slack' ≤ 100000) :
    (noticeE x number margin' slack' = 0 ∨ noticeE x number margin' slack' = 3) ∧ (ntOf x number margin' slack').f ≤ (ntOf x number margin slack).f ∧ (ntOf x number margin slack).u ≤ (ntOf x number margin' slack').u ∧
    (ntOf x number margin' slack').xl ≤ (ntOf x number margin slack).xl ∧ (ntOf x number margin slack).xh ≤ (ntOf x number margin' slack').xh ∧ (ntOf x number margin' slack').yl ≤ (ntOf x number margin slack).yl ∧ (ntOf x number margin slack).yh ≤ (ntOf x number margin' slack').yh := by
  obtain ⟨hb, _, _, _⟩ := noticeE_zero h
  obtain ⟨hs, hn, hm, hl⟩ := noticeBad_false.1 hb
  have hb' : noticeBad x number margin' slack' = false := noticeBad_false.2 ⟨hs, hn, ⟨by omega, h2⟩, by omega, h4⟩
  have m1 := km_mono (a := x.xl) h1
  have m2 := km_mono (a := x.xh) h1
  have m3 := km_mono (a := x.yl) h1
  have m4 := km_mono (a := x.yh) h1
  refine ⟨?_, ?_, ?_, m1.1, m2.2, m3.1, m4.2⟩
  · unfold noticeE
    rw [hb']
    simp only [Bool.false_eq_true, if_false]
    split
    · exact .inr rfl
    · exact .inl rfl
  · show max 0 (x.tl - slack') ≤ max 0 (x.tl - slack); omega
  · show min 100000 (x.th + slack) ≤ min 100000 (x.th + slack'); omega
end Go.Proofs.YtmglbegbijofkaaGreatDoor
