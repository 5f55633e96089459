import Derived.Test.YtmglbegbijofkaaGreatDoorQ06
import Derived.Test.YtmglbegbijofkaaGreatDoorQ07
import Derived.Lib.AppendIntMem
import Derived.Deep.DeepCutAuto
import Derived.Lib.ItoaLen
set_option linter.unusedVariables false
set_option linter.unusedSimpArgs false
namespace Go.Proofs.YtmglbegbijofkaaGreatDoor
open Go.RowKit

/-- the library's table of powers of ten lies where it was laid, whatever is made behind it -/
def Tab10 (w : World) : Prop := Lib.TabBelow Tryz.prog w.heap.size w "internal/strconv.uint64pow10" .u64 Lib.pow10Tab
theorem Tab10.below {w w' : World} (h : Tab10 w) (hb : Below w.heap.size w w') : Tab10 w' := fun w2 h2 => h w2 (hb.trans (h2.mono hb.size))
theorem itoa_any (n : Int) (w : World) (h0 : -9223372036854775808 ≤ n) (h1 : n ≤ 9223372036854775807) (ht : Tab10 w) :
    Calls Tryz.prog 65 #[.int .i64 n] w fun e w' => e = .returned (.string ⟨(Lib.itoa n).toArray⟩) ∧ Below w.heap.size w w' :=
  (Tryz.strconv_Itoa n h0 h1 w ht.here).mono fun _ _ ⟨he, k, os, hw⟩ => ⟨he, hw ▸ Lib.below_grow _ _ (Nat.le_refl _) k os⟩

def noticeBad (x : Impact) (number margin slack : Int) : Bool := strangeI x || outB number 1 9999 || outB margin 0 2000000000 || outB slack 0 100000
def kmLo (a margin : Int) : Int := (a - margin) / 1000000
def kmHi (b margin : Int) : Int := -((-b - margin) / 1000000)
def kmLong (a b margin : Int) : Bool := decide (kmLo a margin < -3000) || decide (3000 < kmHi b margin)
def bstr (l : List UInt8) : ByteArray := ⟨l.toArray⟩
def txt0 (number fr un : Int) : List ByteArray := [bstr [78, 79, 84, 73, 67, 69], bstr (Lib.itoa number), bstr [70, 82, 79, 77], bstr (Lib.itoa fr), bstr [85, 78, 84, 73, 76], bstr (Lib.itoa un)]
def txtS (c : UInt8) (a b margin : Int) : List ByteArray := [bstr [c], bstr (Lib.itoa (kmLo a margin)), bstr (Lib.itoa (kmHi b margin))]
def noticeTxt (x : Impact) (number margin slack : Int) : List UInt8 :=
  Lib.join ((txt0 number (max 0 (x.tl - slack)) (min 100000 (x.th + slack)) ++ txtS 88 x.xl x.xh margin ++ txtS 89 x.yl x.yh margin).map (·.data.toList)) [32]
def noticeE (x : Impact) (number margin slack : Int) : Int := if noticeBad x number margin slack then 7 else if kmLong x.xl x.xh margin || kmLong x.yl x.yh margin then 3 else 0
def noticeS (x : Impact) (number margin slack : Int) : List UInt8 := if noticeBad x number margin slack then [] else if kmLong x.xl x.xh margin || kmLong x.yl x.yh margin then [] else noticeTxt x number margin slack
def NoticeEnd (s : List UInt8) (e : Int) : Ending := .returned (.tuple #[.string (bstr s), .int .i64 e])
/-- the words of the notice when k of its two spans are written -/
def txtN (x : Impact) (number margin slack k : Int) : List ByteArray :=
  txt0 number (max 0 (x.tl - slack)) (min 100000 (x.th + slack)) ++ (if 1 ≤ k then txtS 88 x.xl x.xh margin else []) ++ (if 2 ≤ k then txtS 89 x.yl x.yh margin else [])
theorem txtN_s0 (x : Impact) (number margin slack : Int) : txtN x number margin slack 1 = txtN x number margin slack 0 ++ txtS 88 x.xl x.xh margin := by simp [txtN]
theorem txtN_s1 (x : Impact) (number margin slack : Int) : txtN x number margin slack 2 = txtN x number margin slack 1 ++ txtS 89 x.yl x.yh margin := by simp [txtN]
theorem txtN_len (x : Impact) (number margin slack k : Int) : (txtN x number margin slack k).length ≤ 12 := by
  unfold txtN txt0 txtS; split <;> split <;> simp
theorem noticeTxt_eq (x : Impact) (number margin slack : Int) : Lib.join ((txtN x number margin slack 2).map (·.data.toList)) [32] = noticeTxt x number margin slack := by
  simp [txtN, noticeTxt]
theorem notice_len (x : Impact) (number margin slack : Int) (h1 : 0 ≤ number) (h2 : number ≤ 9999) (h3 : x.tl ≤ 100000) (h4 : 0 ≤ x.th) (h5 : 0 ≤ slack) (h6 : slack ≤ 100000)
    (p1 : -4001 ≤ kmLo x.xl margin) (p2 : kmLo x.xl margin ≤ 2000) (p3 : -2001 ≤ kmHi x.xh margin) (p4 : kmHi x.xh margin ≤ 4001) (r1 : -4001 ≤ kmLo x.yl margin) (r2 : kmLo x.yl margin ≤ 2000) (r3 : -2001 ≤ kmHi x.yh margin) (r4 : kmHi x.yh margin ≤ 4001) :
    (noticeTxt x number margin slack).length ≤ 400 := by
  unfold noticeTxt txt0 txtS
  simp only [List.cons_append, List.nil_append, List.map_cons, List.map_nil, bstr]
  rw [Lib.join_length]
  have a1 := Lib.itoa_length_le number (by omega) (by omega)
  have a2 := Lib.itoa_length_le (max 0 (x.tl - slack)) (by omega) (by omega)
  have a3 := Lib.itoa_length_le (min 100000 (x.th + slack)) (by omega) (by omega)
  have a4 := Lib.itoa_length_le (kmLo x.xl margin) (by omega) (by omega)
  have a5 := Lib.itoa_length_le (kmHi x.xh margin) (by omega) (by omega)
  have a6 := Lib.itoa_length_le (kmLo x.yl margin) (by omega) (by omega)
  have a7 := Lib.itoa_length_le (kmHi x.yh margin) (by omega) (by omega)
  simp [Lib.lens]
  omega
/-- a row of strings of the call's own, as strings.Join takes it -/
theorem strs_of_row {w : World} {B : Nat} {v : Value} {l : List ByteArray} (h : w.ownsRow B 9 1 v l.length (l.map Value.string)) (hn : 0 < l.length) :
    ∃ g c, v = .slice (some ⟨g, 0, none⟩) l.length c ∧ g < w.heap.size ∧ l.length ≤ c ∧ ∀ (j : Nat) x, l[j]? = some x → w.cell? ⟨g, 0 + j, none⟩ = some (.string x) := by
  obtain ⟨h1, ⟨_, h2⟩ | ⟨g, cap, cur, rfl, h4, h5, h6, h7, h8, h9⟩⟩ := h
  · omega
  · refine ⟨g, cap, rfl, (Array.getElem?_eq_some_iff.1 h5).1, h6, fun j x hx => ?_⟩
    have hj : j < l.length := (List.getElem?_eq_some_iff.1 hx).1
    have hg : (l.map Value.string)[j]? = some (.string x) := by rw [List.getElem?_map, hx]; rfl
    rw [← h9, List.getElem?_take_of_lt (by omega)] at hg
    unfold World.cell?
    rw [h5, Nat.zero_add]
    simpa using hg
theorem owns_new (w : World) (cs : Array Value) (t : TypeId) (B : Nat) (hB : B ≤ w.heap.size) (hs : cs.size ≤ maxLen) : (w.alloc (.cells cs t)).ownsRow B t 1 (.slice (some ⟨w.heap.size, 0, none⟩) cs.size cs.size) cs.size cs.toList :=
  ⟨by simp, .inr ⟨w.heap.size, cs.size, cs, rfl, hB, heap_alloc_new w _, Nat.le_refl _, hs, by simp, by rw [Nat.mul_one]; exact List.take_of_length_le (by simp)⟩⟩
theorem km_bd (a margin : Int) (h1 : -2000000000 ≤ a) (h2 : a ≤ 2000000000) (h3 : 0 ≤ margin) (h4 : margin ≤ 2000000000) : -4001 ≤ kmLo a margin ∧ kmLo a margin ≤ 2000 ∧ -2001 ≤ kmHi a margin ∧ kmHi a margin ≤ 4001 := by
  unfold kmLo kmHi; omega
theorem Tryz.info9 : (Tryz.prog.info? 9).map (fun i => (i.zero, i.size, i.bytes)) = some (some (.string ⟨#[]⟩), 1, 16) := by kernel_rfl

set_option maxRecDepth 100000 in
set_option maxHeartbeats 4000000 in
theorem notice_any (x : Impact) (number margin slack : Int) (w : World) (ht : Tab10 w) :
    Calls Tryz.prog 20 #[.agg #[.int .i64 x.p, .int .i64 x.xl, .int .i64 x.xh, .int .i64 x.yl, .int .i64 x.yh, .int .i64 x.tl, .int .i64 x.th], .int .i64 number, .int .i64 margin, .int .i64 slack] w fun e w' =>
      e = NoticeEnd (noticeS x number margin slack) (noticeE x number margin slack) ∧ Below w.heap.size w w' := by
  have HT := Lib.hid ht
  clear ht
  cases hbad : noticeBad x number margin slack with
  | true =>
    have HB := Lib.hid hbad
    have HS : Hid (noticeBad x number margin slack = (strangeB x.p x.xl x.xh x.yl x.yh x.tl x.th || outB number 1 9999 || outB margin 0 2000000000 || outB slack 0 100000)) := show _ = _ from rfl
    clear hbad
    go_enter Tryz.func20, Tryz.ntmps20
    go_wp2_with (first | (go_at_call 63; refine (strange_any _ _ _ _ _ _ _ _).mono ?_; rintro e w' ⟨rfl, hb⟩; obtain ⟨hc, hf⟩ := bcell hb; have hz := hb.size; (try simp at hz)) | (go_at_call 64; refine (out_any _ _ _ _).mono ?_; rintro e w' ⟨rfl, rfl⟩))
    all_goals (first
      | (exfalso; have hq := HB.out; rw [HS.out] at hq; simp [*] at hq; done)
      | (go_ret2; refine ⟨ret_tup2 ?_ (vint ?_), (by repeat (first | exact Below.refl _ _ | assumption | refine balloc ?_ _ | refine below_trans ?_ (by assumption) | refine Below.drew ?_ | refine below_drewN ?_ _ | refine Below.setCell ?_ (by simp <;> omega) _))⟩; (simp [noticeS, HB.out, bstr]); (simp [noticeE, HB.out])))
  | false =>
    have HBAD := Lib.hid hbad
    unfold noticeBad at hbad
    simp only [Bool.or_eq_false_iff] at hbad
    obtain ⟨⟨⟨k1, k2⟩, k3⟩, k4⟩ := hbad
    have hst := strangeB_false.1 k1
    have e1 : strangeB x.p x.xl x.xh x.yl x.yh x.tl x.th = false := k1
    have b2 := outB_false.1 k2
    have b3 := outB_false.1 k3
    have b4 := outB_false.1 k4
    obtain ⟨g0, ⟨⟨g1, g2, g3⟩, g4, g5, g6⟩, g7, g8, g9, g10⟩ := hst
    obtain ⟨n1, n2⟩ := b2
    obtain ⟨m1, m2⟩ := b3
    obtain ⟨l1, l2⟩ := b4
    obtain ⟨i0, hi, hz0, hz1, hz2⟩ := info_parts Tryz.info9
    clear k1
    go_enter Tryz.func20, Tryz.ntmps20
    go_wp2_with fail
    refine (strange_any _ _ _ _ _ _ _ _).mono ?_
    rintro e w1 ⟨rfl, hb1⟩
    have d1 : w1.cell? ⟨w.heap.size, 1, none⟩ = some (.int .i64 x.xl) := below_cell hb1 (by simp)
    have d2 : w1.cell? ⟨w.heap.size, 2, none⟩ = some (.int .i64 x.xh) := below_cell hb1 (by simp)
    have d3 : w1.cell? ⟨w.heap.size, 3, none⟩ = some (.int .i64 x.yl) := below_cell hb1 (by simp)
    have d4 : w1.cell? ⟨w.heap.size, 4, none⟩ = some (.int .i64 x.yh) := below_cell hb1 (by simp)
    have d5 : w1.cell? ⟨w.heap.size, 5, none⟩ = some (.int .i64 x.tl) := below_cell hb1 (by simp)
    have d6 : w1.cell? ⟨w.heap.size, 6, none⟩ = some (.int .i64 x.th) := below_cell hb1 (by simp)
    have hB1 : Below w.heap.size w w1 := (by repeat (first | exact Below.refl _ _ | assumption | refine balloc ?_ _ | refine below_trans ?_ (by assumption) | refine Below.drew ?_ | refine below_drewN ?_ _ | refine Below.setCell ?_ (by simp <;> omega) _))
    have hsz : w.heap.size < w1.heap.size := World.block_lt_of_cell? _ _ d5
    have HT0 := Lib.hid (HT.out.below hB1)
    clear hb1
    go_upto_region 3 with (go_at_call 64; refine (out_any _ _ _ _).mono ?_; rintro e w' ⟨rfl, rfl⟩)
    go_cut [10] (fun s10 wx => wx.ownsRow w1.heap.size 9 1 s10 6 ((txt0 number (max 0 (x.tl - slack)) (min 100000 (x.th + slack))).map Value.string) ∧ Below w1.heap.size w1 wx)
    case first =>
      have c5 : w1.drew.cell? ⟨w.heap.size, 5, none⟩ = some (.int .i64 x.tl) := d5
      have c6 : w1.drew.cell? ⟨w.heap.size, 6, none⟩ = some (.int .i64 x.th) := d6
      have HT1 := Lib.hid (HT0.out.below (Below.refl _ _).drew)
      have hB : Below w1.heap.size w1 w1.drew := (Below.refl _ _).drew
      have q1 := IntWalk.i64_in (x.tl - slack) ⟨by omega, by omega⟩
      have q2 := IntWalk.i64_in (x.th + slack) ⟨by omega, by omega⟩
      by_cases hmx : 0 < x.tl - slack
      · have HF := Lib.hid (show max 0 (x.tl - slack) = x.tl - slack by omega)
        by_cases hmn : x.th + slack < 100000
        · have HU := Lib.hid (show min 100000 (x.th + slack) = x.th + slack by omega)
          go_region_held3 (fun w' => w'.cell? ⟨w.heap.size, 5, none⟩ = some (.int .i64 x.tl) ∧ w'.cell? ⟨w.heap.size, 6, none⟩ = some (.int .i64 x.th)) (first | (with_reducible exact ⟨c5, c6⟩) | (with_reducible exact ⟨alloc_cell c5 _, alloc_cell c6 _⟩) | go_keep) ((go_at_call 65; refine (itoa_any _ _ (by omega) (by omega) HT1.out).mono ?_; rintro e w2 ⟨rfl, hbA⟩; have HT1 := Lib.hid (HT1.out.below hbA); have hB := below_trans hB hbA; have c5 := below_cell hbA c5; have c6 := below_cell hbA c6))
          all_goals (go_wp2_with fail; go_meet; exact ⟨by have h6 := owns_new w2 #[.string (bstr [78, 79, 84, 73, 67, 69]), .string (bstr (Lib.itoa number)), .string (bstr [70, 82, 79, 77]), .string (bstr (Lib.itoa (x.tl - slack))), .string (bstr [85, 78, 84, 73, 76]), .string (bstr (Lib.itoa (x.th + slack)))] 9 w1.heap.size hB.size (by simp [maxLen]); rw [HF.out, HU.out]; exact h6, balloc hB _⟩)
        · have HU := Lib.hid (show min 100000 (x.th + slack) = (100000 : Int) by omega)
          go_region_held3 (fun w' => w'.cell? ⟨w.heap.size, 5, none⟩ = some (.int .i64 x.tl) ∧ w'.cell? ⟨w.heap.size, 6, none⟩ = some (.int .i64 x.th)) (first | (with_reducible exact ⟨c5, c6⟩) | (with_reducible exact ⟨alloc_cell c5 _, alloc_cell c6 _⟩) | go_keep) ((go_at_call 65; refine (itoa_any _ _ (by omega) (by omega) HT1.out).mono ?_; rintro e w2 ⟨rfl, hbA⟩; have HT1 := Lib.hid (HT1.out.below hbA); have hB := below_trans hB hbA; have c5 := below_cell hbA c5; have c6 := below_cell hbA c6))
          all_goals (go_wp2_with fail; go_meet; exact ⟨by have h6 := owns_new w2 #[.string (bstr [78, 79, 84, 73, 67, 69]), .string (bstr (Lib.itoa number)), .string (bstr [70, 82, 79, 77]), .string (bstr (Lib.itoa (x.tl - slack))), .string (bstr [85, 78, 84, 73, 76]), .string (bstr (Lib.itoa (100000)))] 9 w1.heap.size hB.size (by simp [maxLen]); rw [HF.out, HU.out]; exact h6, balloc hB _⟩)
      · have HF := Lib.hid (show max 0 (x.tl - slack) = (0 : Int) by omega)
        by_cases hmn : x.th + slack < 100000
        · have HU := Lib.hid (show min 100000 (x.th + slack) = x.th + slack by omega)
          go_region_held3 (fun w' => w'.cell? ⟨w.heap.size, 5, none⟩ = some (.int .i64 x.tl) ∧ w'.cell? ⟨w.heap.size, 6, none⟩ = some (.int .i64 x.th)) (first | (with_reducible exact ⟨c5, c6⟩) | (with_reducible exact ⟨alloc_cell c5 _, alloc_cell c6 _⟩) | go_keep) ((go_at_call 65; refine (itoa_any _ _ (by omega) (by omega) HT1.out).mono ?_; rintro e w2 ⟨rfl, hbA⟩; have HT1 := Lib.hid (HT1.out.below hbA); have hB := below_trans hB hbA; have c5 := below_cell hbA c5; have c6 := below_cell hbA c6))
          all_goals (go_wp2_with fail; go_meet; exact ⟨by have h6 := owns_new w2 #[.string (bstr [78, 79, 84, 73, 67, 69]), .string (bstr (Lib.itoa number)), .string (bstr [70, 82, 79, 77]), .string (bstr (Lib.itoa (0))), .string (bstr [85, 78, 84, 73, 76]), .string (bstr (Lib.itoa (x.th + slack)))] 9 w1.heap.size hB.size (by simp [maxLen]); rw [HF.out, HU.out]; exact h6, balloc hB _⟩)
        · have HU := Lib.hid (show min 100000 (x.th + slack) = (100000 : Int) by omega)
          go_region_held3 (fun w' => w'.cell? ⟨w.heap.size, 5, none⟩ = some (.int .i64 x.tl) ∧ w'.cell? ⟨w.heap.size, 6, none⟩ = some (.int .i64 x.th)) (first | (with_reducible exact ⟨c5, c6⟩) | (with_reducible exact ⟨alloc_cell c5 _, alloc_cell c6 _⟩) | go_keep) ((go_at_call 65; refine (itoa_any _ _ (by omega) (by omega) HT1.out).mono ?_; rintro e w2 ⟨rfl, hbA⟩; have HT1 := Lib.hid (HT1.out.below hbA); have hB := below_trans hB hbA; have c5 := below_cell hbA c5; have c6 := below_cell hbA c6))
          all_goals (go_wp2_with fail; go_meet; exact ⟨by have h6 := owns_new w2 #[.string (bstr [78, 79, 84, 73, 67, 69]), .string (bstr (Lib.itoa number)), .string (bstr [70, 82, 79, 77]), .string (bstr (Lib.itoa (0))), .string (bstr [85, 78, 84, 73, 76]), .string (bstr (Lib.itoa (100000)))] 9 w1.heap.size hB.size (by simp [maxLen]); rw [HF.out, HU.out]; exact h6, balloc hB _⟩)
    case rest =>
      obtain ⟨hown, hBx⟩ := hcut
      have c1 := below_cell hBx d1
      have c2 := below_cell hBx d2
      have c3 := below_cell hBx d3
      have c4 := below_cell hBx d4
      have hB := below_trans hB1 hBx
      have HTx := Lib.hid (HT0.out.below hBx)
      have hown := ownsRow_base hown hB1.size
      clear d1 d2 d3 d4 d5 d6 HT0 hB1 hBx
      have i0' : ∀ w : World, (Instr.index 130 (.agg #[.int .i64 x.xl, .int .i64 x.xh, .int .i64 x.yl, .int .i64 x.yh]) (.int .i64 0)).run Tryz.prog w = .ok (.agg #[.int .i64 x.xl, .int .i64 x.xh]) w := fun _ => by kernel_rfl
      have i1' : ∀ w : World, (Instr.index 130 (.agg #[.int .i64 x.xl, .int .i64 x.xh, .int .i64 x.yl, .int .i64 x.yh]) (.int .i64 1)).run Tryz.prog w = .ok (.agg #[.int .i64 x.yl, .int .i64 x.yh]) w := fun _ => by kernel_rfl
      obtain ⟨p1, p2, p3, p4⟩ := km_bd x.xl margin (by omega) (by omega) m1 m2
      obtain ⟨p5, p6, p7, p8⟩ := km_bd x.xh margin (by omega) (by omega) m1 m2
      obtain ⟨r1, r2, r3, r4⟩ := km_bd x.yl margin (by omega) (by omega) m1 m2
      obtain ⟨r5, r6, r7, r8⟩ := km_bd x.yh margin (by omega) (by omega) m1 m2
      go_wp2_with fail
      go_loopw [10, 53] (fun v i wr => ∃ k : Int, 0 ≤ k ∧ k ≤ 2 ∧ i = .int .i64 k ∧ wr.ownsRow w.heap.size 9 1 v (txtN x number margin slack k).length ((txtN x number margin slack k).map Value.string) ∧ Below w.heap.size w wr ∧ Hid (1 ≤ k → kmLong x.xl x.xh margin = false) ∧ Hid (2 ≤ k → kmLong x.yl x.yh margin = false)) (fun _ i _ => (2 - intOf i).toNat)
      case atStart => exact ⟨0, by omega, by omega, rfl, by simpa [txtN, txt0] using hown, hB, by intro h; omega, by intro h; omega⟩
      case round =>
        obtain ⟨k, hk0, hk2, rfl, hown2, hB2, HX, HY⟩ := hrel
        have HT2 := Lib.hid (HT.out.below hB2)
        clear hown hB HTx c1 c2 c3 c4
        have hk : k = 0 ∨ k = 1 ∨ k = 2 := by omega
        rcases hk with rfl | rfl | rfl
        · skip
          go_wp2_with fail
          have u1 := IntWalk.i64_in (x.xl - margin) ⟨by omega, by omega⟩
          have u2 := IntWalk.i64_in (-x.xh) ⟨by omega, by omega⟩
          have u3 := IntWalk.i64_in (-x.xh - margin) ⟨by omega, by omega⟩
          have u4 := IntWalk.i64_in (-((-x.xh - margin) / 1000000)) ⟨by omega, by omega⟩
          go_quiet ((go_at_call 66; exact qsame (floor_any _ _ _ (by omega) (by omega) (by omega) (by omega))))
          clear u1 u2 u3 u4
          have HKL : Hid (kmLong x.xl x.xh margin = (decide (kmLo x.xl margin < -3000) || decide (3000 < kmHi x.xh margin))) := show _ = _ from rfl
          have HLO : Hid ((x.xl - margin) / 1000000 = kmLo x.xl margin) := show _ = _ from rfl
          have HHI : Hid (-((-x.xh - margin) / 1000000) = kmHi x.xh margin) := show _ = _ from rfl
          rw [HLO.out, HHI.out]
          have hB3 : Below w.heap.size w ((wr.alloc (.cells #[.int .i64 x.xl, .int .i64 x.xh] 23)).drewN nq) := (by repeat (first | exact Below.refl _ _ | assumption | refine balloc ?_ _ | refine below_trans ?_ (by assumption) | refine Below.drew ?_ | refine below_drewN ?_ _ | refine Below.setCell ?_ (by simp <;> omega) _))
          have hown3 : ((wr.alloc (.cells #[.int .i64 x.xl, .int .i64 x.xh] 23)).drewN nq).ownsRow w.heap.size 9 1 u10 (txtN x number margin slack 0).length ((txtN x number margin slack 0).map Value.string) := ownsRow_below hown2 (below_drewN' (balloc (Below.refl _ _) _) _)
          have hlen := txtN_len x number margin slack 0
          clear hown2 HLO HHI
          generalize (wr.alloc (.cells #[.int .i64 x.xl, .int .i64 x.xh] 23)).drewN nq = W3 at *
          have HTS : Hid (txtS 88 x.xl x.xh margin = [bstr [88], bstr (Lib.itoa (kmLo x.xl margin)), bstr (Lib.itoa (kmHi x.xh margin))]) := show _ = _ from rfl
          generalize hTT : txtN x number margin slack 0 = TT at *
          have HTT := Lib.hid hTT
          clear hTT
          generalize kmLo x.xl margin = lo at *
          generalize kmHi x.xh margin = hi' at *
          by_cases h1 : lo < -3000
          · go_wp2_with fail
            go_ret2
            have hq : kmLong x.xl x.xh margin = true := by rw [HKL.out]; simp [h1]
            refine ⟨ret_tup2 ?_ (vint ?_), (by repeat (first | exact Below.refl _ _ | assumption | refine balloc ?_ _ | refine below_trans ?_ (by assumption) | refine Below.drew ?_ | refine below_drewN ?_ _ | refine Below.setCell ?_ (by simp <;> omega) _))⟩
            · simp [noticeS, HBAD.out, hq, bstr]
            · simp [noticeE, HBAD.out, hq]
          · by_cases h2 : 3000 < hi'
            · go_wp2_with fail
              go_ret2
              have hq : kmLong x.xl x.xh margin = true := by rw [HKL.out]; simp [h2]
              refine ⟨ret_tup2 ?_ (vint ?_), (by repeat (first | exact Below.refl _ _ | assumption | refine balloc ?_ _ | refine below_trans ?_ (by assumption) | refine Below.drew ?_ | refine below_drewN ?_ _ | refine Below.setCell ?_ (by simp <;> omega) _))⟩
              · simp [noticeS, HBAD.out, hq, bstr]
              · simp [noticeE, HBAD.out, hq]
            · have hq : kmLong x.xl x.xh margin = false := by rw [HKL.out]; simp; omega
              have HQ := Lib.hid hq
              clear hq
              have h1' : -3000 ≤ lo := by omega
              have h2' : hi' ≤ 3000 := by omega
              clear h1 h2
              go_wp2_with fail
              have HT3 := Lib.hid (HT.out.below hB3.drew)
              have v5 := IntWalk.i64_in (1) ⟨by omega, by omega⟩
              have v6 := IntWalk.i64_in (0 + 1) ⟨by omega, by omega⟩
              have hsl : ∀ w : World, (Instr.sliceAt 9 (.string ⟨#[88, 89]⟩) (some (.int .i64 0)) (some (.int .i64 1)) none).run Tryz.prog w = .ok (.string ⟨#[88]⟩) w := fun _ => by kernel_rfl
              have hB := hB3.drew
              have hown := World.ownsRow.drew hown3
              go_region_held3 (fun _ => True) (trivial)
                (first
                  | (go_at_call 65; refine (itoa_any _ _ (by omega) (by omega) HT3.out).mono ?_; rintro e w4 ⟨rfl, hbA⟩; have HT3 := Lib.hid (HT3.out.below hbA); have hB := below_trans hB hbA; have hown := ownsRow_below hown hbA)
                  | (refine step_append_lies _ (by rfl) _ _ _ (by rfl) w.heap.size 9 i0 _ 1 16 Tryz.underlying109 hi hz0 hz1 hz2 rfl (by omega) u10 TT.length _ (by rfl) (World.ownsRow.alloc hown _) ⟨w4.heap.size, 0, none⟩ 3 3 [.string (bstr [88]), .string (bstr (Lib.itoa lo)), .string (bstr (Lib.itoa hi'))] (by rfl) (by rfl) (World.news_of_block (cs := #[.string (bstr [88]), .string (bstr (Lib.itoa lo)), .string (bstr (Lib.itoa hi'))]) (t := 9) (fr := (0, 0)) (heap_alloc_new w4 _)) (by simp [Value.oneCell']) (by omega) (by unfold maxLen; omega) (by omega) (by have := hB.size; simp; omega) (w4.heap.size + 1) (by simp) ?_
                     intro g cap w6 hown6 hgrow hat hlt6
                     have hB6 := below_grown (balloc hB _) hgrow (fun g hg => (World.ownsRow.lt hown g hg).1)))
              go_wp2_with fail
              all_goals
                go_roundw
                case rel => exact ⟨1, by omega, by omega, rfl, by rw [txtN_s0, HTT.out, HTS.out]; simpa using hown6, hB6, fun _ => HQ.out, by intro h; omega⟩
                case measure => simp [intOf]
        · have HX0 := Lib.hid (HX.out (by omega))
          go_wp2_with fail
          have u1 := IntWalk.i64_in (x.yl - margin) ⟨by omega, by omega⟩
          have u2 := IntWalk.i64_in (-x.yh) ⟨by omega, by omega⟩
          have u3 := IntWalk.i64_in (-x.yh - margin) ⟨by omega, by omega⟩
          have u4 := IntWalk.i64_in (-((-x.yh - margin) / 1000000)) ⟨by omega, by omega⟩
          go_quiet ((go_at_call 66; exact qsame (floor_any _ _ _ (by omega) (by omega) (by omega) (by omega))))
          clear u1 u2 u3 u4
          have HKL : Hid (kmLong x.yl x.yh margin = (decide (kmLo x.yl margin < -3000) || decide (3000 < kmHi x.yh margin))) := show _ = _ from rfl
          have HLO : Hid ((x.yl - margin) / 1000000 = kmLo x.yl margin) := show _ = _ from rfl
          have HHI : Hid (-((-x.yh - margin) / 1000000) = kmHi x.yh margin) := show _ = _ from rfl
          rw [HLO.out, HHI.out]
          have hB3 : Below w.heap.size w ((wr.alloc (.cells #[.int .i64 x.yl, .int .i64 x.yh] 23)).drewN nq) := (by repeat (first | exact Below.refl _ _ | assumption | refine balloc ?_ _ | refine below_trans ?_ (by assumption) | refine Below.drew ?_ | refine below_drewN ?_ _ | refine Below.setCell ?_ (by simp <;> omega) _))
          have hown3 : ((wr.alloc (.cells #[.int .i64 x.yl, .int .i64 x.yh] 23)).drewN nq).ownsRow w.heap.size 9 1 u10 (txtN x number margin slack 1).length ((txtN x number margin slack 1).map Value.string) := ownsRow_below hown2 (below_drewN' (balloc (Below.refl _ _) _) _)
          have hlen := txtN_len x number margin slack 1
          clear hown2 HLO HHI
          generalize (wr.alloc (.cells #[.int .i64 x.yl, .int .i64 x.yh] 23)).drewN nq = W3 at *
          have HTS : Hid (txtS 89 x.yl x.yh margin = [bstr [89], bstr (Lib.itoa (kmLo x.yl margin)), bstr (Lib.itoa (kmHi x.yh margin))]) := show _ = _ from rfl
          generalize hTT : txtN x number margin slack 1 = TT at *
          have HTT := Lib.hid hTT
          clear hTT
          generalize kmLo x.yl margin = lo at *
          generalize kmHi x.yh margin = hi' at *
          by_cases h1 : lo < -3000
          · go_wp2_with fail
            go_ret2
            have hq : kmLong x.yl x.yh margin = true := by rw [HKL.out]; simp [h1]
            refine ⟨ret_tup2 ?_ (vint ?_), (by repeat (first | exact Below.refl _ _ | assumption | refine balloc ?_ _ | refine below_trans ?_ (by assumption) | refine Below.drew ?_ | refine below_drewN ?_ _ | refine Below.setCell ?_ (by simp <;> omega) _))⟩
            · simp [noticeS, HBAD.out, hq, bstr]
            · simp [noticeE, HBAD.out, hq]
          · by_cases h2 : 3000 < hi'
            · go_wp2_with fail
              go_ret2
              have hq : kmLong x.yl x.yh margin = true := by rw [HKL.out]; simp [h2]
              refine ⟨ret_tup2 ?_ (vint ?_), (by repeat (first | exact Below.refl _ _ | assumption | refine balloc ?_ _ | refine below_trans ?_ (by assumption) | refine Below.drew ?_ | refine below_drewN ?_ _ | refine Below.setCell ?_ (by simp <;> omega) _))⟩
              · simp [noticeS, HBAD.out, hq, bstr]
              · simp [noticeE, HBAD.out, hq]
            · have hq : kmLong x.yl x.yh margin = false := by rw [HKL.out]; simp; omega
              have HQ := Lib.hid hq
              clear hq
              have h1' : -3000 ≤ lo := by omega
              have h2' : hi' ≤ 3000 := by omega
              clear h1 h2
              go_wp2_with fail
              have HT3 := Lib.hid (HT.out.below hB3.drew)
              have v5 := IntWalk.i64_in (2) ⟨by omega, by omega⟩
              have v6 := IntWalk.i64_in (1 + 1) ⟨by omega, by omega⟩
              have hsl : ∀ w : World, (Instr.sliceAt 9 (.string ⟨#[88, 89]⟩) (some (.int .i64 1)) (some (.int .i64 2)) none).run Tryz.prog w = .ok (.string ⟨#[89]⟩) w := fun _ => by kernel_rfl
              have hB := hB3.drew
              have hown := World.ownsRow.drew hown3
              go_region_held3 (fun _ => True) (trivial)
                (first
                  | (go_at_call 65; refine (itoa_any _ _ (by omega) (by omega) HT3.out).mono ?_; rintro e w4 ⟨rfl, hbA⟩; have HT3 := Lib.hid (HT3.out.below hbA); have hB := below_trans hB hbA; have hown := ownsRow_below hown hbA)
                  | (refine step_append_lies _ (by rfl) _ _ _ (by rfl) w.heap.size 9 i0 _ 1 16 Tryz.underlying109 hi hz0 hz1 hz2 rfl (by omega) u10 TT.length _ (by rfl) (World.ownsRow.alloc hown _) ⟨w4.heap.size, 0, none⟩ 3 3 [.string (bstr [89]), .string (bstr (Lib.itoa lo)), .string (bstr (Lib.itoa hi'))] (by rfl) (by rfl) (World.news_of_block (cs := #[.string (bstr [89]), .string (bstr (Lib.itoa lo)), .string (bstr (Lib.itoa hi'))]) (t := 9) (fr := (0, 0)) (heap_alloc_new w4 _)) (by simp [Value.oneCell']) (by omega) (by unfold maxLen; omega) (by omega) (by have := hB.size; simp; omega) (w4.heap.size + 1) (by simp) ?_
                     intro g cap w6 hown6 hgrow hat hlt6
                     have hB6 := below_grown (balloc hB _) hgrow (fun g hg => (World.ownsRow.lt hown g hg).1)))
              go_wp2_with fail
              all_goals
                go_roundw
                case rel => exact ⟨2, by omega, by omega, rfl, by rw [txtN_s1, HTT.out, HTS.out]; simpa using hown6, hB6, fun _ => HX0.out, fun _ => HQ.out⟩
                case measure => simp [intOf]
        · have HX0 := Lib.hid (HX.out (by omega))
          have HY0 := Lib.hid (HY.out (by omega))
          go_wp2_with fail
          have hjl := notice_len x number margin slack (by omega) n2 (by omega) (by omega) l1 l2 p1 p2 p7 p8 r1 r2 r7 r8
          obtain ⟨g, c, rfl, hg1, hg2, hg3⟩ := strs_of_row hown2 (by unfold txtN txt0; simp)
          have hlen := txtN_len x number margin slack 2
          refine (Tryz.strings_Join g 0 c (txtN x number margin slack 2) (bstr [32]) wr hg3 hg1 (by omega) hg2 (by show (Lib.join ((txtN x number margin slack 2).map (·.data.toList)) [32]).length ≤ _; rw [noticeTxt_eq]; omega)).mono ?_
          rintro e w4 ⟨rfl, hb4⟩
          clear hjl hg1 hg2 hg3 hown2 hlen
          go_wp2_with fail
          go_ret2
          refine ⟨ret_tup2 ?_ (vint ?_), (by repeat (first | exact Below.refl _ _ | assumption | refine balloc ?_ _ | refine below_trans ?_ (by assumption) | refine Below.drew ?_ | refine below_drewN ?_ _ | refine Below.setCell ?_ (by simp <;> omega) _))⟩
          · show Value.string (bstr (Lib.join ((txtN x number margin slack 2).map (·.data.toList)) [32])) = _
            rw [noticeTxt_eq]
            simp [noticeS, HBAD.out, HX0.out, HY0.out]
          · simp [noticeE, HBAD.out, HX0.out, HY0.out]

end Go.Proofs.YtmglbegbijofkaaGreatDoor
