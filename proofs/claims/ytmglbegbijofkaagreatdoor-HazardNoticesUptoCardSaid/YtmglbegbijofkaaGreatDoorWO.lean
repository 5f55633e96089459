import Derived.Test.YtmglbegbijofkaaGreatDoorW4
import Derived.Test.YtmglbegbijofkaaGreatDoorBx
import Derived.Test.YtmglbegbijofkaaGreatDoorW52
import Derived.Test.YtmglbegbijofkaaGreatDoorRL
import Derived.Test.YtmglbegbijofkaaGreatDoorW12
import Derived.Test.YtmglbegbijofkaaGreatDoorW27
import Derived.Test.YtmglbegbijofkaaGreatDoorW53
import Derived.Test.YtmglbegbijofkaaGreatDoorW37
import Derived.Test.YtmglbegbijofkaaGreatDoorPl18
import Derived.Test.YtmglbegbijofkaaGreatDoorWN
import Derived.Test.YtmglbegbijofkaaGreatDoorW22
set_option linter.unusedVariables false
set_option linter.unusedSimpArgs false
namespace Go.Proofs.YtmglbegbijofkaaGreatDoor
open Go.RowKit
theorem tdiv_pos {a : Int} (h : 0 ≤ a) : a.tdiv 1000000 = a / 1000000 ∧ a.tmod 1000000 = a % 1000000 := ⟨Int.tdiv_eq_ediv_of_nonneg h, Int.tmod_eq_emod_of_nonneg h⟩
theorem tdiv_neg {a : Int} (h : a < 0) : a.tdiv 1000000 = -(-a / 1000000) ∧ a.tmod 1000000 = -(-a % 1000000) := by
  have h1 := tdiv_pos (a := -a) (by omega)
  rw [Int.neg_tdiv, Int.neg_tmod] at h1
  omega
theorem rdown_facts (a : Int) : (a.tmod 1000000 < 0 → a.tdiv 1000000 - 1 = a / 1000000) ∧ (¬ a.tmod 1000000 < 0 → a.tdiv 1000000 = a / 1000000) := by
  rcases Int.lt_or_le a 0 with h | h
  · have := tdiv_neg h; omega
  · have := tdiv_pos h; omega
set_option maxRecDepth 100000 in
set_option maxHeartbeats 800000 in
theorem rdown_any (a : Int) (w : World) (h1 : -1000000000000 ≤ a) (h2 : a ≤ 1000000000000) : Calls Tryz.prog 134 #[.int .i64 a, .int .i64 1000000] w fun e w' => e = .returned (.int .i64 (a / 1000000)) ∧ w = w' := by
  obtain ⟨f1, f2⟩ := rdown_facts a
  have g1 : -1000000000000 ≤ a.tdiv 1000000 ∧ a.tdiv 1000000 ≤ 1000000000000 := by
    rcases Int.lt_or_le a 0 with h | h
    · have := tdiv_neg h; omega
    · have := tdiv_pos h; omega
  obtain ⟨g1, g1'⟩ := g1
  have F1 := Lib.hid f1
  have F2 := Lib.hid f2
  clear f1 f2
  go_enter Tryz.func134, Tryz.ntmps134
  go_wp2
  all_goals (go_ret; refine ⟨ret_int ?_, rfl⟩)
  all_goals (first | exact F1.out ‹_› | exact F2.out ‹_›)
end Go.Proofs.YtmglbegbijofkaaGreatDoor
namespace Go.Proofs.YtmglbegbijofkaaGreatDoor
open Go.RowKit
set_option maxRecDepth 100000 in
set_option maxHeartbeats 800000 in
theorem rkm_any (l h g : Int) (w : World) (h1 : -2000000000 ≤ l) (h2 : l ≤ 2000000000) (h3 : -2000000000 ≤ h) (h4 : h ≤ 2000000000) (h5 : 0 ≤ g) (h6 : g ≤ 2000000000) : Calls Tryz.prog 70 #[.agg #[.int .i64 l, .int .i64 h], .int .i64 g] w fun e w' => e = .returned (.agg #[.int .i64 ((l - g) / 1000000), .int .i64 (-((-h - g) / 1000000))]) ∧ Below w.heap.size w w' := by
  go_enter Tryz.func70, Tryz.ntmps70
  have u1 := IntWalk.i64_in (l - g) ⟨by omega, by omega⟩
  have u2 := IntWalk.i64_in (-h) ⟨by omega, by omega⟩
  have u3 := IntWalk.i64_in (-h - g) ⟨by omega, by omega⟩
  have u4 := IntWalk.i64_in (-((-h - g) / 1000000)) ⟨by omega, by omega⟩
  go_wp2_with fail
  go_region_held3 (fun w' => w'.cell? ⟨w.heap.size, 0, none⟩ = some (.int .i64 l) ∧ w'.cell? ⟨w.heap.size, 1, none⟩ = some (.int .i64 h)) (first | (with_reducible exact ⟨c0, c1⟩) | (with_reducible exact ⟨alloc_cell c0 _, alloc_cell c1 _⟩) | go_keep) ((go_at_call 134; refine (rdown_any _ _ (by omega) (by omega)).mono ?_; rintro e w1 ⟨rfl, rfl⟩))
  go_wp2_with fail
  exact bodyPost_ret (v := .agg #[.int .i64 ((l - g) / 1000000), .int .i64 (-((-h - g) / 1000000))]) (by simp [results, Tryz.results70, go_sem]) rfl ⟨rfl, (by repeat (first | exact Below.refl _ _ | assumption | refine balloc ?_ _ | refine below_trans ?_ (by assumption) | refine Below.drew ?_ | refine below_drewN ?_ _ | refine Below.setCell ?_ (by simp <;> omega) _))⟩
end Go.Proofs.YtmglbegbijofkaaGreatDoor
namespace Go.Proofs.YtmglbegbijofkaaGreatDoor
open Go.RowKit
def S2 (nb : Nat) (l h : Int) (w' : World) : Prop := w'.cell? ⟨nb, 0, none⟩ = some (.int .i64 l) ∧ w'.cell? ⟨nb, 1, none⟩ = some (.int .i64 h)
set_option maxRecDepth 100000 in
set_option maxHeartbeats 800000 in
theorem rtext_any (l h : Int) (w : World) (h1 : -1000000000 ≤ l) (h2 : l ≤ 1000000000) (h3 : -1000000000 ≤ h) (h4 : h ≤ 1000000000) : Calls Tryz.prog 72 #[.agg #[.int .i64 l, .int .i64 h]] w fun e w' => e = .returned (.string ⟨(Lib.itoa l ++ (32 :: Lib.itoa h)).toArray⟩) ∧ Below w.heap.size w w' := by
  have HD1 := Lib.hid (fun W => digits71_any l (by omega) (by omega) W)
  have HD2 := Lib.hid (fun W => digits71_any h (by omega) (by omega) W)
  have l1 : (Lib.itoa l).length ≤ 21 := Lib.itoa_length_le l (by omega) (by omega)
  have l2 : (Lib.itoa h).length ≤ 21 := Lib.itoa_length_le h (by omega) (by omega)
  generalize Lib.itoa l = D1 at *
  generalize Lib.itoa h = D2 at *
  have HEQ : Hid (((⟨D1.toArray⟩ : ByteArray) ++ ⟨#[32]⟩) ++ ⟨D2.toArray⟩ = ⟨(D1 ++ (32 :: D2)).toArray⟩) := show _ = _ from by
    rw [show (⟨#[32]⟩ : ByteArray) = ⟨([32] : List UInt8).toArray⟩ from rfl, str_app, str_app, List.append_assoc]; rfl
  clear h1 h2 h3 h4
  go_enter Tryz.func72, Tryz.ntmps72
  go_wp2_with fail
  have hNB := cellsNew w #[.int .i64 l, .int .i64 h] 23
  have hB : Below w.heap.size w (w.alloc (.cells #[.int .i64 l, .int .i64 h] 23)) := (by repeat (first | exact Below.refl _ _ | assumption | refine balloc ?_ _ | refine below_trans ?_ (by assumption) | refine Below.drew ?_ | refine below_drewN ?_ _ | refine Below.setCell ?_ (by simp <;> omega) _))
  generalize w.alloc (.cells #[.int .i64 l, .int .i64 h] 23) = W1 at *
  have hK : S2 w.heap.size l h W1.drew := cells2 hNB.drew
  refine wp_region_noPanic ?_
  refine wp_region_held_drew (S := S2 w.heap.size l h) (by kernel_rfl) hK (fun _ => ?_)
  first | (refine wpAnyH_take (i := 0) (v := ?_) rfl (by kernel_rfl) (by kernel_rfl) (by kernel_rfl) (fun _ _ _ h => h) (Or.inl ⟨by rfl, ?_⟩) hK ?_; rotate_left; (focus (intro w' hSw; obtain ⟨z0, z1⟩ := hSw; go_simp; (try rw [if_neg (by omega)]); (try with_reducible rfl); done)); (try simp only [Act.put, List.setIfInBounds_toArray, List.set_cons_zero, List.set_cons_succ, List.getElem_toArray, List.getElem_cons_succ, List.getElem_cons_zero])) | (refine wpAnyH_take (i := 0) (v := undef) rfl (by kernel_rfl) (by kernel_rfl) (by kernel_rfl) (fun _ _ _ h => h) (Or.inr ⟨by rfl, rfl⟩) hK ?_; (try simp only [Act.put, List.setIfInBounds_toArray, List.set_cons_zero, List.set_cons_succ, List.getElem_toArray, List.getElem_cons_succ, List.getElem_cons_zero]))
  first | (refine wpAnyH_take (i := 1) (v := ?_) rfl (by kernel_rfl) (by kernel_rfl) (by kernel_rfl) (fun _ _ _ h => h) (Or.inl ⟨by rfl, ?_⟩) hK ?_; rotate_left; (focus (intro w' hSw; obtain ⟨z0, z1⟩ := hSw; go_simp; (try rw [if_neg (by omega)]); (try with_reducible rfl); done)); (try simp only [Act.put, List.setIfInBounds_toArray, List.set_cons_zero, List.set_cons_succ, List.getElem_toArray, List.getElem_cons_succ, List.getElem_cons_zero])) | (refine wpAnyH_take (i := 1) (v := undef) rfl (by kernel_rfl) (by kernel_rfl) (by kernel_rfl) (fun _ _ _ h => h) (Or.inr ⟨by rfl, rfl⟩) hK ?_; (try simp only [Act.put, List.setIfInBounds_toArray, List.set_cons_zero, List.set_cons_succ, List.getElem_toArray, List.getElem_cons_succ, List.getElem_cons_zero]))
  first | (refine wpAnyH_take (i := 4) (v := ?_) rfl (by kernel_rfl) (by kernel_rfl) (by kernel_rfl) (fun _ _ _ h => h) (Or.inl ⟨by rfl, ?_⟩) hK ?_; rotate_left; (focus (intro w' hSw; obtain ⟨z0, z1⟩ := hSw; go_simp; (try rw [if_neg (by omega)]); (try with_reducible rfl); done)); (try simp only [Act.put, List.setIfInBounds_toArray, List.set_cons_zero, List.set_cons_succ, List.getElem_toArray, List.getElem_cons_succ, List.getElem_cons_zero])) | (refine wpAnyH_take (i := 4) (v := undef) rfl (by kernel_rfl) (by kernel_rfl) (by kernel_rfl) (fun _ _ _ h => h) (Or.inr ⟨by rfl, rfl⟩) hK ?_; (try simp only [Act.put, List.setIfInBounds_toArray, List.set_cons_zero, List.set_cons_succ, List.getElem_toArray, List.getElem_cons_succ, List.getElem_cons_zero]))
  first | (refine wpAnyH_take (i := 5) (v := ?_) rfl (by kernel_rfl) (by kernel_rfl) (by kernel_rfl) (fun _ _ _ h => h) (Or.inl ⟨by rfl, ?_⟩) hK ?_; rotate_left; (focus (intro w' hSw; obtain ⟨z0, z1⟩ := hSw; go_simp; (try rw [if_neg (by omega)]); (try with_reducible rfl); done)); (try simp only [Act.put, List.setIfInBounds_toArray, List.set_cons_zero, List.set_cons_succ, List.getElem_toArray, List.getElem_cons_succ, List.getElem_cons_zero])) | (refine wpAnyH_take (i := 5) (v := undef) rfl (by kernel_rfl) (by kernel_rfl) (by kernel_rfl) (fun _ _ _ h => h) (Or.inr ⟨by rfl, rfl⟩) hK ?_; (try simp only [Act.put, List.setIfInBounds_toArray, List.set_cons_zero, List.set_cons_succ, List.getElem_toArray, List.getElem_cons_succ, List.getElem_cons_zero]))
  refine wpAnyH_ready (rs := [2]) (by kernel_rfl) (by simp) (AllReadyH.cons rfl (fun K' hK' => ?_) AllReadyH.nil)
  go_simp
  refine (HD1.out _).mono ?_
  rintro e w3 ⟨rfl, hbA⟩
  (try dsimp only)
  (try (with_reducible have hbA := below_drew' hbA))
  have hNB := hNB.below hbA
  have hB := below_trans hB hbA
  have hK : S2 w.heap.size l h w3 := cells2 hNB
  refine hK'.out _ _ hK (fun _ => ?_)
  clear hK' K' hbA
  (try simp only [Act.put, List.setIfInBounds_toArray, List.set_cons_zero, List.set_cons_succ, List.getElem_toArray, List.getElem_cons_succ, List.getElem_cons_zero])
  first | (refine wpAnyH_take (i := 3) (v := ?_) rfl (by kernel_rfl) (by kernel_rfl) (by kernel_rfl) (fun _ _ _ h => h) (Or.inl ⟨by rfl, ?_⟩) hK ?_; rotate_left; (focus (intro w' hSw; obtain ⟨z0, z1⟩ := hSw; go_simp; (try rw [if_neg (by omega)]); (try with_reducible rfl); done)); (try simp only [Act.put, List.setIfInBounds_toArray, List.set_cons_zero, List.set_cons_succ, List.getElem_toArray, List.getElem_cons_succ, List.getElem_cons_zero])) | (refine wpAnyH_take (i := 3) (v := undef) rfl (by kernel_rfl) (by kernel_rfl) (by kernel_rfl) (fun _ _ _ h => h) (Or.inr ⟨by rfl, rfl⟩) hK ?_; (try simp only [Act.put, List.setIfInBounds_toArray, List.set_cons_zero, List.set_cons_succ, List.getElem_toArray, List.getElem_cons_succ, List.getElem_cons_zero]))
  refine wpAnyH_ready (rs := [6]) (by kernel_rfl) (by simp) (AllReadyH.cons rfl (fun K' hK' => ?_) AllReadyH.nil)
  go_simp
  refine (HD2.out _).mono ?_
  rintro e w4 ⟨rfl, hbA⟩
  (try dsimp only)
  (try (with_reducible have hbA := below_drew' hbA))
  have hNB := hNB.below hbA
  have hB := below_trans hB hbA
  have hK : S2 w.heap.size l h w4 := cells2 hNB
  refine hK'.out _ _ hK (fun _ => ?_)
  clear hK' K' hbA
  (try simp only [Act.put, List.setIfInBounds_toArray, List.set_cons_zero, List.set_cons_succ, List.getElem_toArray, List.getElem_cons_succ, List.getElem_cons_zero])
  first | (refine wpAnyH_take (i := 7) (v := ?_) rfl (by kernel_rfl) (by kernel_rfl) (by kernel_rfl) (fun _ _ _ h => h) (Or.inl ⟨by rfl, ?_⟩) hK ?_; rotate_left; (focus (intro w' hSw; obtain ⟨z0, z1⟩ := hSw; go_simp; (try rw [if_neg (by omega)]); (try with_reducible rfl); done)); (try simp only [Act.put, List.setIfInBounds_toArray, List.set_cons_zero, List.set_cons_succ, List.getElem_toArray, List.getElem_cons_succ, List.getElem_cons_zero])) | (refine wpAnyH_take (i := 7) (v := undef) rfl (by kernel_rfl) (by kernel_rfl) (by kernel_rfl) (fun _ _ _ h => h) (Or.inr ⟨by rfl, rfl⟩) hK ?_; (try simp only [Act.put, List.setIfInBounds_toArray, List.set_cons_zero, List.set_cons_succ, List.getElem_toArray, List.getElem_cons_succ, List.getElem_cons_zero]))
  first | (refine wpAnyH_take (i := 8) (v := ?_) rfl (by kernel_rfl) (by kernel_rfl) (by kernel_rfl) (fun _ _ _ h => h) (Or.inl ⟨by rfl, ?_⟩) hK ?_; rotate_left; (focus (intro w' hSw; obtain ⟨z0, z1⟩ := hSw; go_simp; (try rw [if_neg (by omega)]); (try with_reducible rfl); done)); (try simp only [Act.put, List.setIfInBounds_toArray, List.set_cons_zero, List.set_cons_succ, List.getElem_toArray, List.getElem_cons_succ, List.getElem_cons_zero])) | (refine wpAnyH_take (i := 8) (v := undef) rfl (by kernel_rfl) (by kernel_rfl) (by kernel_rfl) (fun _ _ _ h => h) (Or.inr ⟨by rfl, rfl⟩) hK ?_; (try simp only [Act.put, List.setIfInBounds_toArray, List.set_cons_zero, List.set_cons_succ, List.getElem_toArray, List.getElem_cons_succ, List.getElem_cons_zero]))
  refine wpAnyH_done (by kernel_rfl) (NoPanic.normal ?_) _
  (try simp only [Act.put, List.setIfInBounds_toArray, List.set_cons_zero, List.set_cons_succ, List.getElem_toArray, List.getElem_cons_succ, List.getElem_cons_zero])
  go_wp2_with fail
  go_ret
  exact ⟨by rw [← HEQ.out]; rfl, hB⟩
end Go.Proofs.YtmglbegbijofkaaGreatDoor
namespace Go.Proofs.YtmglbegbijofkaaGreatDoor
open Go.RowKit
theorem cells7x {W : World} {b : Nat} {t : TypeId} {a0 a1 a2 a3 a4 a5 a6 : Value} (h : cellsAt W b t #[a0, a1, a2, a3, a4, a5, a6]) : W.cell? ⟨b, 0, none⟩ = some a0 ∧ W.cell? ⟨b, 1, none⟩ = some a1 ∧ W.cell? ⟨b, 2, none⟩ = some a2 ∧ W.cell? ⟨b, 3, none⟩ = some a3 ∧ W.cell? ⟨b, 4, none⟩ = some a4 ∧ W.cell? ⟨b, 5, none⟩ = some a5 ∧ W.cell? ⟨b, 6, none⟩ = some a6 :=
  ⟨h.cell 0, h.cell 1, h.cell 2, h.cell 3, h.cell 4, h.cell 5, h.cell 6⟩
def S83 (xb ab bb : Nat) (tl th a0 a1 b0 b1 : Int) (w' : World) : Prop := w'.cell? ⟨xb, 5, none⟩ = some (.int .i64 tl) ∧ w'.cell? ⟨xb, 6, none⟩ = some (.int .i64 th) ∧ w'.cell? ⟨ab, 0, none⟩ = some (.int .i64 a0) ∧ w'.cell? ⟨ab, 1, none⟩ = some (.int .i64 a1) ∧ w'.cell? ⟨bb, 0, none⟩ = some (.int .i64 b0) ∧ w'.cell? ⟨bb, 1, none⟩ = some (.int .i64 b1)
theorem S83.of {W : World} {xb ab bb : Nat} {p a b c d tl th a0 a1 b0 b1 : Int} (h : cellsAt W xb 27 #[.int .i64 p, .int .i64 a, .int .i64 b, .int .i64 c, .int .i64 d, .int .i64 tl, .int .i64 th]) (h1 : cellsAt W ab 23 #[.int .i64 a0, .int .i64 a1]) (h2 : cellsAt W bb 23 #[.int .i64 b0, .int .i64 b1]) : S83 xb ab bb tl th a0 a1 b0 b1 W :=
  ⟨h.cell 5, h.cell 6, h1.cell 0, h1.cell 1, h2.cell 0, h2.cell 1⟩
theorem notice_ref (x : Impact) (number margin slack : Int) : noticeTxt x number margin slack = ((((((((([78, 79, 84, 73, 67, 69, 32] ++ Lib.itoa number) ++ [32, 70, 82, 79, 77, 32]) ++ Lib.itoa (max 0 (x.tl - slack))) ++ [32, 85, 78, 84, 73, 76, 32]) ++ Lib.itoa (min 100000 (x.th + slack))) ++ [32, 88, 32]) ++ (Lib.itoa (kmLo x.xl margin) ++ (32 :: Lib.itoa (kmHi x.xh margin)))) ++ [32, 89, 32]) ++ (Lib.itoa (kmLo x.yl margin) ++ (32 :: Lib.itoa (kmHi x.yh margin)))) := by
  rw [← noticeTxt_eq]
  simp [txtN, txt0, txtS, bstr, join_two, join_one]
set_option maxRecDepth 100000 in
set_option maxHeartbeats 4000000 in
theorem rnotice_any (x : Impact) (number margin slack : Int) (w : World) :
    Calls Tryz.prog 21 #[.agg #[.int .i64 x.p, .int .i64 x.xl, .int .i64 x.xh, .int .i64 x.yl, .int .i64 x.yh, .int .i64 x.tl, .int .i64 x.th], .int .i64 number, .int .i64 margin, .int .i64 slack] w fun e w' =>
      e = NoticeEnd (noticeS x number margin slack) (noticeE x number margin slack) ∧ Below w.heap.size w w' := by
  cases hbad : noticeBad x number margin slack with
  | true =>
    have HB := Lib.hid hbad
    have HS : Hid (noticeBad x number margin slack = (strangeB x.p x.xl x.xh x.yl x.yh x.tl x.th || outB number 1 9999 || outB margin 0 2000000000 || outB slack 0 100000)) := show _ = _ from rfl
    clear hbad
    go_enter Tryz.func21, Tryz.ntmps21
    go_wp2_with (first | (go_at_call 68; refine (rimpact_any _ _ _ _ _ _ _ _).mono ?_; rintro e w' ⟨rfl, hb⟩; obtain ⟨hc, hf⟩ := bcell hb; have hz := hb.size; (try simp at hz)) | (go_at_call 69; refine (in_any _ _ _ _).mono ?_; rintro e w' ⟨rfl, rfl⟩))
    all_goals (first
      | (exfalso; have hq := HB.out; rw [HS.out] at hq; simp [*] at hq; done)
      | (go_ret2; refine ⟨ret_tup2 ?_ (vint ?_), (by repeat (first | exact Below.refl _ _ | assumption | refine balloc ?_ _ | refine below_trans ?_ (by assumption) | refine Below.drew ?_ | refine below_drewN ?_ _ | refine Below.setCell ?_ (by simp <;> omega) _))⟩; (simp [noticeS, HB.out, bstr]); (simp [noticeE, HB.out])))
  | false =>
    have HBAD := Lib.hid hbad
    unfold noticeBad at hbad
    simp only [Bool.or_eq_false_iff] at hbad
    obtain ⟨⟨⟨k1, k2⟩, k3⟩, k4⟩ := hbad
    have hst := strangeB_false.1 k1
    have e1 : strangeB x.p x.xl x.xh x.yl x.yh x.tl x.th = false := k1
    have b2 := outB_false.1 k2
    have b3 := outB_false.1 k3
    have b4 := outB_false.1 k4
    obtain ⟨g0, ⟨⟨g1, g2, g3⟩, g4, g5, g6⟩, g7, g8, g9, g10⟩ := hst
    obtain ⟨n1, n2⟩ := b2
    obtain ⟨m1, m2⟩ := b3
    obtain ⟨l1, l2⟩ := b4
    clear k1
    go_enter Tryz.func21, Tryz.ntmps21
    go_wp2_with fail
    have hX := cellsNew w #[.int .i64 x.p, .int .i64 x.xl, .int .i64 x.xh, .int .i64 x.yl, .int .i64 x.yh, .int .i64 x.tl, .int .i64 x.th] 27
    have hB : Below w.heap.size w (w.alloc (.cells #[.int .i64 x.p, .int .i64 x.xl, .int .i64 x.xh, .int .i64 x.yl, .int .i64 x.yh, .int .i64 x.tl, .int .i64 x.th] 27)) := (by repeat (first | exact Below.refl _ _ | assumption | refine balloc ?_ _ | refine below_trans ?_ (by assumption) | refine Below.drew ?_ | refine below_drewN ?_ _ | refine Below.setCell ?_ (by simp <;> omega) _))
    generalize w.alloc (.cells #[.int .i64 x.p, .int .i64 x.xl, .int .i64 x.xh, .int .i64 x.yl, .int .i64 x.yh, .int .i64 x.tl, .int .i64 x.th] 27) = W0 at *
    refine (rimpact_any _ _ _ _ _ _ _ _).mono ?_
    rintro e w1 ⟨rfl, hb1⟩
    have hX := hX.below hb1
    have hB := below_trans hB hb1
    rw [e1, Bool.not_false]
    clear hb1
    go_upto_region 3 with (go_at_call 69; refine (in_any _ _ _ _).mono ?_; rintro e w' ⟨rfl, rfl⟩)
    go_cut [10, 11] (fun p10 p11 wx => ∃ ab bb : Nat, p10 = .pointer (some ⟨ab, 0, none⟩) ∧ p11 = .pointer (some ⟨bb, 0, none⟩) ∧ cellsAt wx ab 23 #[.int .i64 (kmLo x.xl margin), .int .i64 (kmHi x.xh margin)] ∧ cellsAt wx bb 23 #[.int .i64 (kmLo x.yl margin), .int .i64 (kmHi x.yh margin)] ∧ cellsAt wx w.heap.size 27 #[.int .i64 x.p, .int .i64 x.xl, .int .i64 x.xh, .int .i64 x.yl, .int .i64 x.yh, .int .i64 x.tl, .int .i64 x.th] ∧ Below w.heap.size w wx)
    case first =>
      obtain ⟨d0, d1, d2, d3, d4, d5, d6⟩ := cells7x hX
      have hl := hX.lt
      clear d0 d5 d6 k2 k3 k4 e1 HBAD
      go_region_held3 (fun w' => w'.cell? ⟨w.heap.size, 1, none⟩ = some (.int .i64 x.xl) ∧ w'.cell? ⟨w.heap.size, 2, none⟩ = some (.int .i64 x.xh) ∧ w'.cell? ⟨w.heap.size, 3, none⟩ = some (.int .i64 x.yl) ∧ w'.cell? ⟨w.heap.size, 4, none⟩ = some (.int .i64 x.yh)) (first | (refine ⟨?_, ?_, ?_, ?_⟩; all_goals (repeat (first | (with_reducible exact d1) | (with_reducible exact d2) | (with_reducible exact d3) | (with_reducible exact d4) | (with_reducible refine drc ?_) | (with_reducible refine alloc_cell ?_ _) | (with_reducible refine setc (by dsimp only; omega) ?_))); done) | go_keep)
        ((go_at_call 70; refine (rkm_any _ _ _ _ (by omega) (by omega) (by omega) (by omega) (by omega) (by omega)).mono ?_; rintro e w4 ⟨rfl, hbA⟩
          (try (with_reducible have hbA := below_drew' hbA))
          (first
            | (with_reducible have hbB := bl1 (bl1 hbA)); have hN := ((cellsNew _ #[.int .i64 0, .int .i64 0] 23).alloc _).below hbA; have hM := (cellsNew1 _ _ #[.int .i64 0, .int .i64 0] 23).below hbA
            | (with_reducible have hbB := bl1 hbA); (first | (have hN := hN.below hbB; have hM := (cellsNew _ #[.int .i64 0, .int .i64 0] 23).below hbA) | (have hN := (cellsNew _ #[.int .i64 0, .int .i64 0] 23).below hbA))
            | (have hbB := hbA; (try have hN := hN.below hbB); (try have hM := hM.below hbB)))
          have hX := hX.below hbB
          have hB := below_trans hB hbB
          have d1 := below_cell hbB d1
          have d2 := below_cell hbB d2
          have d3 := below_cell hbB d3
          have d4 := below_cell hbB d4
          have hl := hX.lt
          (try have cn := cells2 hN; obtain ⟨cn0, cn1⟩ := cn; have fn0 := hN.frozen 0; have fn1 := hN.frozen 1; have ln := hN.lt; have ln' := Nat.ne_of_lt ln)
          (try have cm := cells2 hM; obtain ⟨cm0, cm1⟩ := cm; have fm0 := hM.frozen 0; have fm1 := hM.frozen 1; have lm := hM.lt; have lm' := Nat.ne_of_lt lm)))
      all_goals go_wp2_with fail
      all_goals go_meet
      all_goals (unfold kmLo kmHi)
      all_goals (clear d1 d2 d3 d4)
      all_goals (refine ⟨_, _, rfl, rfl, ?_, ?_, ?_, ?_⟩)
      all_goals (repeat (first
        | (with_reducible exact hX) | (with_reducible exact hB) | (with_reducible exact hN) | (with_reducible exact hM)
        | (with_reducible exact cellsNewE (by simp) _ _)
        | (with_reducible refine cellsAt.drew ?_) | (with_reducible refine Below.drew ?_)
        | (with_reducible refine cellsAt.alloc ?_ _) | (with_reducible refine balloc ?_ _)
        | (with_reducible refine cellsAt.set2 (a := .int .i64 0) (b := .int .i64 0) ?_ _ _)
        | (with_reducible refine cellsAt.set_other ?_ (by dsimp only; omega) _)
        | (with_reducible refine Below.setCell ?_ (by dsimp only; omega) _)))
    case rest =>
      obtain ⟨ab, bb, rfl, rfl, hA, hY, hX, hB⟩ := hcut
      obtain ⟨p1, p2, p3, p4⟩ := km_bd x.xl margin (by omega) (by omega) m1 m2
      obtain ⟨p5, p6, p7, p8⟩ := km_bd x.xh margin (by omega) (by omega) m1 m2
      obtain ⟨r1, r2, r3, r4⟩ := km_bd x.yl margin (by omega) (by omega) m1 m2
      obtain ⟨r5, r6, r7, r8⟩ := km_bd x.yh margin (by omega) (by omega) m1 m2
      have HKX : Hid (kmLong x.xl x.xh margin = (decide (kmLo x.xl margin < -3000) || decide (3000 < kmHi x.xh margin))) := show _ = _ from rfl
      have HKY : Hid (kmLong x.yl x.yh margin = (decide (kmLo x.yl margin < -3000) || decide (3000 < kmHi x.yh margin))) := show _ = _ from rfl
      have HTX := Lib.hid (notice_ref x number margin slack)
      generalize kmLo x.xl margin = lo1 at *
      generalize kmHi x.xh margin = hi1 at *
      generalize kmLo x.yl margin = lo2 at *
      generalize kmHi x.yh margin = hi2 at *
      obtain ⟨d0, d1, d2, d3, d4, c5, c6⟩ := cells7x hX
      obtain ⟨a0, a1⟩ := cells2 hA
      obtain ⟨b0, b1⟩ := cells2 hY
      clear d0 d1 d2 d3 d4 k2 k3 k4 e1
      by_cases hlong : lo1 < -3000 ∨ lo2 < -3000 ∨ 3000 < hi1 ∨ 3000 < hi2
      · have hq : (kmLong x.xl x.xh margin || kmLong x.yl x.yh margin) = true := by
          rw [HKX.out, HKY.out]
          simp only [Bool.or_eq_true, decide_eq_true_eq]
          omega
        have HS : Hid (noticeS x number margin slack = [] ∧ noticeE x number margin slack = 3) := show _ ∧ _ from ⟨by simp [noticeS, HBAD.out, hq], by simp [noticeE, HBAD.out, hq]⟩
        clear hq
        by_cases h1 : min lo1 lo2 < -3000
        · clear hlong
          go_wp2_with fail
          go_ret2
          exact ⟨ret_tup2 (by rw [HS.out.1]; rfl) (vint HS.out.2.symm), hB⟩
        · have h2 : 3000 < max hi1 hi2 := by omega
          clear hlong
          go_wp2_with fail
          go_ret2
          exact ⟨ret_tup2 (by rw [HS.out.1]; rfl) (vint HS.out.2.symm), hB⟩
      · have hq : (kmLong x.xl x.xh margin || kmLong x.yl x.yh margin) = false := by
          rw [HKX.out, HKY.out]
          simp only [Bool.or_eq_false_iff, decide_eq_false_iff_not]
          omega
        have HSX : Hid (noticeS x number margin slack = noticeTxt x number margin slack) := show _ = _ from by simp [noticeS, HBAD.out, hq]
        have HSE : Hid (noticeE x number margin slack = 0) := show _ = _ from by simp [noticeE, HBAD.out, hq]
        clear hq HKX HKY
        have h1 : ¬ min lo1 lo2 < -3000 := by omega
        have h2 : ¬ 3000 < max hi1 hi2 := by omega
        have z1 : -3000 ≤ lo1 ∧ -3000 ≤ lo2 ∧ hi1 ≤ 3000 ∧ hi2 ≤ 3000 := by omega
        obtain ⟨z1, z2, z3, z4⟩ := z1
        have HD1 := Lib.hid (fun W => digits71_any number (by omega) (by omega) W)
        have l1' := itoa_len number (by omega) (by omega)
        have HT1 := Lib.hid (fun W => rtext_any lo1 hi1 W (by omega) (by omega) (by omega) (by omega))
        have HT2 := Lib.hid (fun W => rtext_any lo2 hi2 W (by omega) (by omega) (by omega) (by omega))
        have t1 : (Lib.itoa lo1 ++ (32 :: Lib.itoa hi1)).length ≤ 43 := by
          have := itoa_len lo1 (by omega) (by omega)
          have := itoa_len hi1 (by omega) (by omega)
          simp; omega
        have t2 : (Lib.itoa lo2 ++ (32 :: Lib.itoa hi2)).length ≤ 43 := by
          have := itoa_len lo2 (by omega) (by omega)
          have := itoa_len hi2 (by omega) (by omega)
          simp; omega
        generalize Lib.itoa lo1 ++ (32 :: Lib.itoa hi1) = T1 at *
        generalize Lib.itoa lo2 ++ (32 :: Lib.itoa hi2) = T2 at *
        generalize Lib.itoa number = D1 at *
        have q1 := IntWalk.i64_in (x.tl - slack) ⟨by omega, by omega⟩
        have q2 := IntWalk.i64_in (x.th + slack) ⟨by omega, by omega⟩
        clear hlong HBAD
        go_wp2_with fail
        have l2 := itoa_len (max 0 (x.tl - slack)) (by omega) (by omega)
        have l3 := itoa_len (min 100000 (x.th + slack)) (by omega) (by omega)
        have HEQ : Hid ((((((((((⟨#[78, 79, 84, 73, 67, 69, 32]⟩ : ByteArray) ++ ⟨D1.toArray⟩) ++ ⟨#[32, 70, 82, 79, 77, 32]⟩) ++ ⟨(Lib.itoa (max 0 (x.tl - slack))).toArray⟩) ++ ⟨#[32, 85, 78, 84, 73, 76, 32]⟩) ++ ⟨(Lib.itoa (min 100000 (x.th + slack))).toArray⟩) ++ ⟨#[32, 88, 32]⟩) ++ ⟨T1.toArray⟩) ++ ⟨#[32, 89, 32]⟩) ++ ⟨T2.toArray⟩ = bstr (noticeS x number margin slack)) := show _ = _ from by
          rw [HSX.out, HTX.out]
          simp only [str_app, bstr]
        have HEE : Hid (noticeE x number margin slack = 0) := show _ = _ from HSE.out
        have HD2 := Lib.hid (fun W => digits71_any (max 0 (x.tl - slack)) (by omega) (by omega) W)
        have HD3 := Lib.hid (fun W => digits71_any (min 100000 (x.th + slack)) (by omega) (by omega) W)
        generalize Lib.itoa (max 0 (x.tl - slack)) = D2 at *
        generalize Lib.itoa (min 100000 (x.th + slack)) = D3 at *
        clear c5 c6 a0 a1 b0 b1
        have hK : S83 w.heap.size ab bb x.tl x.th lo1 hi1 lo2 hi2 wc.drew := S83.of hX.drew hA.drew hY.drew
        refine wp_region_noPanic ?_
        refine wp_region_held_drew (S := S83 w.heap.size ab bb x.tl x.th lo1 hi1 lo2 hi2) (by kernel_rfl) hK (fun _ => ?_)
        first | (refine wpAnyH_take (i := 0) (v := ?_) rfl (by kernel_rfl) (by kernel_rfl) (by kernel_rfl) (fun _ _ _ h => h) (Or.inl ⟨by rfl, ?_⟩) hK ?_; rotate_left; (focus (intro w' hSw; obtain ⟨z0, z1, z2, z3, z4, z5⟩ := hSw; go_simp; (try rw [if_neg (by omega)]); (try with_reducible rfl); done)); (try simp only [Act.put, List.setIfInBounds_toArray, List.set_cons_zero, List.set_cons_succ, List.getElem_toArray, List.getElem_cons_succ, List.getElem_cons_zero])) | (refine wpAnyH_take (i := 0) (v := undef) rfl (by kernel_rfl) (by kernel_rfl) (by kernel_rfl) (fun _ _ _ h => h) (Or.inr ⟨by rfl, rfl⟩) hK ?_; (try simp only [Act.put, List.setIfInBounds_toArray, List.set_cons_zero, List.set_cons_succ, List.getElem_toArray, List.getElem_cons_succ, List.getElem_cons_zero]))
        first | (refine wpAnyH_take (i := 4) (v := ?_) rfl (by kernel_rfl) (by kernel_rfl) (by kernel_rfl) (fun _ _ _ h => h) (Or.inl ⟨by rfl, ?_⟩) hK ?_; rotate_left; (focus (intro w' hSw; obtain ⟨z0, z1, z2, z3, z4, z5⟩ := hSw; go_simp; (try rw [if_neg (by omega)]); (try with_reducible rfl); done)); (try simp only [Act.put, List.setIfInBounds_toArray, List.set_cons_zero, List.set_cons_succ, List.getElem_toArray, List.getElem_cons_succ, List.getElem_cons_zero])) | (refine wpAnyH_take (i := 4) (v := undef) rfl (by kernel_rfl) (by kernel_rfl) (by kernel_rfl) (fun _ _ _ h => h) (Or.inr ⟨by rfl, rfl⟩) hK ?_; (try simp only [Act.put, List.setIfInBounds_toArray, List.set_cons_zero, List.set_cons_succ, List.getElem_toArray, List.getElem_cons_succ, List.getElem_cons_zero]))
        first | (refine wpAnyH_take (i := 5) (v := ?_) rfl (by kernel_rfl) (by kernel_rfl) (by kernel_rfl) (fun _ _ _ h => h) (Or.inl ⟨by rfl, ?_⟩) hK ?_; rotate_left; (focus (intro w' hSw; obtain ⟨z0, z1, z2, z3, z4, z5⟩ := hSw; go_simp; (try rw [if_neg (by omega)]); (try with_reducible rfl); done)); (try simp only [Act.put, List.setIfInBounds_toArray, List.set_cons_zero, List.set_cons_succ, List.getElem_toArray, List.getElem_cons_succ, List.getElem_cons_zero])) | (refine wpAnyH_take (i := 5) (v := undef) rfl (by kernel_rfl) (by kernel_rfl) (by kernel_rfl) (fun _ _ _ h => h) (Or.inr ⟨by rfl, rfl⟩) hK ?_; (try simp only [Act.put, List.setIfInBounds_toArray, List.set_cons_zero, List.set_cons_succ, List.getElem_toArray, List.getElem_cons_succ, List.getElem_cons_zero]))
        first | (refine wpAnyH_take (i := 6) (v := ?_) rfl (by kernel_rfl) (by kernel_rfl) (by kernel_rfl) (fun _ _ _ h => h) (Or.inl ⟨by rfl, ?_⟩) hK ?_; rotate_left; (focus (intro w' hSw; obtain ⟨z0, z1, z2, z3, z4, z5⟩ := hSw; go_simp; (try rw [if_neg (by omega)]); (try with_reducible rfl); done)); (try simp only [Act.put, List.setIfInBounds_toArray, List.set_cons_zero, List.set_cons_succ, List.getElem_toArray, List.getElem_cons_succ, List.getElem_cons_zero])) | (refine wpAnyH_take (i := 6) (v := undef) rfl (by kernel_rfl) (by kernel_rfl) (by kernel_rfl) (fun _ _ _ h => h) (Or.inr ⟨by rfl, rfl⟩) hK ?_; (try simp only [Act.put, List.setIfInBounds_toArray, List.set_cons_zero, List.set_cons_succ, List.getElem_toArray, List.getElem_cons_succ, List.getElem_cons_zero]))
        first | (refine wpAnyH_take (i := 7) (v := ?_) rfl (by kernel_rfl) (by kernel_rfl) (by kernel_rfl) (fun _ _ _ h => h) (Or.inl ⟨by rfl, ?_⟩) hK ?_; rotate_left; (focus (intro w' hSw; obtain ⟨z0, z1, z2, z3, z4, z5⟩ := hSw; go_simp; (try rw [if_neg (by omega)]); (try with_reducible rfl); done)); (try simp only [Act.put, List.setIfInBounds_toArray, List.set_cons_zero, List.set_cons_succ, List.getElem_toArray, List.getElem_cons_succ, List.getElem_cons_zero])) | (refine wpAnyH_take (i := 7) (v := undef) rfl (by kernel_rfl) (by kernel_rfl) (by kernel_rfl) (fun _ _ _ h => h) (Or.inr ⟨by rfl, rfl⟩) hK ?_; (try simp only [Act.put, List.setIfInBounds_toArray, List.set_cons_zero, List.set_cons_succ, List.getElem_toArray, List.getElem_cons_succ, List.getElem_cons_zero]))
        first | (refine wpAnyH_take (i := 8) (v := ?_) rfl (by kernel_rfl) (by kernel_rfl) (by kernel_rfl) (fun _ _ _ h => h) (Or.inl ⟨by rfl, ?_⟩) hK ?_; rotate_left; (focus (intro w' hSw; obtain ⟨z0, z1, z2, z3, z4, z5⟩ := hSw; go_simp; (try rw [if_neg (by omega)]); (try with_reducible rfl); done)); (try simp only [Act.put, List.setIfInBounds_toArray, List.set_cons_zero, List.set_cons_succ, List.getElem_toArray, List.getElem_cons_succ, List.getElem_cons_zero])) | (refine wpAnyH_take (i := 8) (v := undef) rfl (by kernel_rfl) (by kernel_rfl) (by kernel_rfl) (fun _ _ _ h => h) (Or.inr ⟨by rfl, rfl⟩) hK ?_; (try simp only [Act.put, List.setIfInBounds_toArray, List.set_cons_zero, List.set_cons_succ, List.getElem_toArray, List.getElem_cons_succ, List.getElem_cons_zero]))
        first | (refine wpAnyH_take (i := 9) (v := ?_) rfl (by kernel_rfl) (by kernel_rfl) (by kernel_rfl) (fun _ _ _ h => h) (Or.inl ⟨by rfl, ?_⟩) hK ?_; rotate_left; (focus (intro w' hSw; obtain ⟨z0, z1, z2, z3, z4, z5⟩ := hSw; go_simp; (try rw [if_neg (by omega)]); (try with_reducible rfl); done)); (try simp only [Act.put, List.setIfInBounds_toArray, List.set_cons_zero, List.set_cons_succ, List.getElem_toArray, List.getElem_cons_succ, List.getElem_cons_zero])) | (refine wpAnyH_take (i := 9) (v := undef) rfl (by kernel_rfl) (by kernel_rfl) (by kernel_rfl) (fun _ _ _ h => h) (Or.inr ⟨by rfl, rfl⟩) hK ?_; (try simp only [Act.put, List.setIfInBounds_toArray, List.set_cons_zero, List.set_cons_succ, List.getElem_toArray, List.getElem_cons_succ, List.getElem_cons_zero]))
        first | (refine wpAnyH_take (i := 13) (v := ?_) rfl (by kernel_rfl) (by kernel_rfl) (by kernel_rfl) (fun _ _ _ h => h) (Or.inl ⟨by rfl, ?_⟩) hK ?_; rotate_left; (focus (intro w' hSw; obtain ⟨z0, z1, z2, z3, z4, z5⟩ := hSw; go_simp; (try rw [if_neg (by omega)]); (try with_reducible rfl); done)); (try simp only [Act.put, List.setIfInBounds_toArray, List.set_cons_zero, List.set_cons_succ, List.getElem_toArray, List.getElem_cons_succ, List.getElem_cons_zero])) | (refine wpAnyH_take (i := 13) (v := undef) rfl (by kernel_rfl) (by kernel_rfl) (by kernel_rfl) (fun _ _ _ h => h) (Or.inr ⟨by rfl, rfl⟩) hK ?_; (try simp only [Act.put, List.setIfInBounds_toArray, List.set_cons_zero, List.set_cons_succ, List.getElem_toArray, List.getElem_cons_succ, List.getElem_cons_zero]))
        first | (refine wpAnyH_take (i := 14) (v := ?_) rfl (by kernel_rfl) (by kernel_rfl) (by kernel_rfl) (fun _ _ _ h => h) (Or.inl ⟨by rfl, ?_⟩) hK ?_; rotate_left; (focus (intro w' hSw; obtain ⟨z0, z1, z2, z3, z4, z5⟩ := hSw; go_simp; (try rw [if_neg (by omega)]); (try with_reducible rfl); done)); (try simp only [Act.put, List.setIfInBounds_toArray, List.set_cons_zero, List.set_cons_succ, List.getElem_toArray, List.getElem_cons_succ, List.getElem_cons_zero])) | (refine wpAnyH_take (i := 14) (v := undef) rfl (by kernel_rfl) (by kernel_rfl) (by kernel_rfl) (fun _ _ _ h => h) (Or.inr ⟨by rfl, rfl⟩) hK ?_; (try simp only [Act.put, List.setIfInBounds_toArray, List.set_cons_zero, List.set_cons_succ, List.getElem_toArray, List.getElem_cons_succ, List.getElem_cons_zero]))
        first | (refine wpAnyH_take (i := 15) (v := ?_) rfl (by kernel_rfl) (by kernel_rfl) (by kernel_rfl) (fun _ _ _ h => h) (Or.inl ⟨by rfl, ?_⟩) hK ?_; rotate_left; (focus (intro w' hSw; obtain ⟨z0, z1, z2, z3, z4, z5⟩ := hSw; go_simp; (try rw [if_neg (by omega)]); (try with_reducible rfl); done)); (try simp only [Act.put, List.setIfInBounds_toArray, List.set_cons_zero, List.set_cons_succ, List.getElem_toArray, List.getElem_cons_succ, List.getElem_cons_zero])) | (refine wpAnyH_take (i := 15) (v := undef) rfl (by kernel_rfl) (by kernel_rfl) (by kernel_rfl) (fun _ _ _ h => h) (Or.inr ⟨by rfl, rfl⟩) hK ?_; (try simp only [Act.put, List.setIfInBounds_toArray, List.set_cons_zero, List.set_cons_succ, List.getElem_toArray, List.getElem_cons_succ, List.getElem_cons_zero]))
        first | (refine wpAnyH_take (i := 16) (v := ?_) rfl (by kernel_rfl) (by kernel_rfl) (by kernel_rfl) (fun _ _ _ h => h) (Or.inl ⟨by rfl, ?_⟩) hK ?_; rotate_left; (focus (intro w' hSw; obtain ⟨z0, z1, z2, z3, z4, z5⟩ := hSw; go_simp; (try rw [if_neg (by omega)]); (try with_reducible rfl); done)); (try simp only [Act.put, List.setIfInBounds_toArray, List.set_cons_zero, List.set_cons_succ, List.getElem_toArray, List.getElem_cons_succ, List.getElem_cons_zero])) | (refine wpAnyH_take (i := 16) (v := undef) rfl (by kernel_rfl) (by kernel_rfl) (by kernel_rfl) (fun _ _ _ h => h) (Or.inr ⟨by rfl, rfl⟩) hK ?_; (try simp only [Act.put, List.setIfInBounds_toArray, List.set_cons_zero, List.set_cons_succ, List.getElem_toArray, List.getElem_cons_succ, List.getElem_cons_zero]))
        first | (refine wpAnyH_take (i := 17) (v := ?_) rfl (by kernel_rfl) (by kernel_rfl) (by kernel_rfl) (fun _ _ _ h => h) (Or.inl ⟨by rfl, ?_⟩) hK ?_; rotate_left; (focus (intro w' hSw; obtain ⟨z0, z1, z2, z3, z4, z5⟩ := hSw; go_simp; (try rw [if_neg (by omega)]); (try with_reducible rfl); done)); (try simp only [Act.put, List.setIfInBounds_toArray, List.set_cons_zero, List.set_cons_succ, List.getElem_toArray, List.getElem_cons_succ, List.getElem_cons_zero])) | (refine wpAnyH_take (i := 17) (v := undef) rfl (by kernel_rfl) (by kernel_rfl) (by kernel_rfl) (fun _ _ _ h => h) (Or.inr ⟨by rfl, rfl⟩) hK ?_; (try simp only [Act.put, List.setIfInBounds_toArray, List.set_cons_zero, List.set_cons_succ, List.getElem_toArray, List.getElem_cons_succ, List.getElem_cons_zero]))
        first | (refine wpAnyH_take (i := 18) (v := ?_) rfl (by kernel_rfl) (by kernel_rfl) (by kernel_rfl) (fun _ _ _ h => h) (Or.inl ⟨by rfl, ?_⟩) hK ?_; rotate_left; (focus (intro w' hSw; obtain ⟨z0, z1, z2, z3, z4, z5⟩ := hSw; go_simp; (try rw [if_neg (by omega)]); (try with_reducible rfl); done)); (try simp only [Act.put, List.setIfInBounds_toArray, List.set_cons_zero, List.set_cons_succ, List.getElem_toArray, List.getElem_cons_succ, List.getElem_cons_zero])) | (refine wpAnyH_take (i := 18) (v := undef) rfl (by kernel_rfl) (by kernel_rfl) (by kernel_rfl) (fun _ _ _ h => h) (Or.inr ⟨by rfl, rfl⟩) hK ?_; (try simp only [Act.put, List.setIfInBounds_toArray, List.set_cons_zero, List.set_cons_succ, List.getElem_toArray, List.getElem_cons_succ, List.getElem_cons_zero]))
        first | (refine wpAnyH_take (i := 22) (v := ?_) rfl (by kernel_rfl) (by kernel_rfl) (by kernel_rfl) (fun _ _ _ h => h) (Or.inl ⟨by rfl, ?_⟩) hK ?_; rotate_left; (focus (intro w' hSw; obtain ⟨z0, z1, z2, z3, z4, z5⟩ := hSw; go_simp; (try rw [if_neg (by omega)]); (try with_reducible rfl); done)); (try simp only [Act.put, List.setIfInBounds_toArray, List.set_cons_zero, List.set_cons_succ, List.getElem_toArray, List.getElem_cons_succ, List.getElem_cons_zero])) | (refine wpAnyH_take (i := 22) (v := undef) rfl (by kernel_rfl) (by kernel_rfl) (by kernel_rfl) (fun _ _ _ h => h) (Or.inr ⟨by rfl, rfl⟩) hK ?_; (try simp only [Act.put, List.setIfInBounds_toArray, List.set_cons_zero, List.set_cons_succ, List.getElem_toArray, List.getElem_cons_succ, List.getElem_cons_zero]))
        first | (refine wpAnyH_take (i := 26) (v := ?_) rfl (by kernel_rfl) (by kernel_rfl) (by kernel_rfl) (fun _ _ _ h => h) (Or.inl ⟨by rfl, ?_⟩) hK ?_; rotate_left; (focus (intro w' hSw; obtain ⟨z0, z1, z2, z3, z4, z5⟩ := hSw; go_simp; (try rw [if_neg (by omega)]); (try with_reducible rfl); done)); (try simp only [Act.put, List.setIfInBounds_toArray, List.set_cons_zero, List.set_cons_succ, List.getElem_toArray, List.getElem_cons_succ, List.getElem_cons_zero])) | (refine wpAnyH_take (i := 26) (v := undef) rfl (by kernel_rfl) (by kernel_rfl) (by kernel_rfl) (fun _ _ _ h => h) (Or.inr ⟨by rfl, rfl⟩) hK ?_; (try simp only [Act.put, List.setIfInBounds_toArray, List.set_cons_zero, List.set_cons_succ, List.getElem_toArray, List.getElem_cons_succ, List.getElem_cons_zero]))
        refine wpAnyH_ready (rs := [1]) (by kernel_rfl) (by simp) (AllReadyH.cons rfl (fun K' hK' => ?_) AllReadyH.nil)
        go_simp
        with_reducible refine (HD1.out _).mono ?_
        rintro e w3 ⟨rfl, hbA⟩
        (try dsimp only)
        (try (with_reducible have hbA := below_drew' hbA))
        have hX := hX.below hbA
        have hA := hA.below hbA
        have hY := hY.below hbA
        have hB := below_trans hB hbA
        have hK : S83 w.heap.size ab bb x.tl x.th lo1 hi1 lo2 hi2 w3 := S83.of hX hA hY
        refine hK'.out _ _ hK (fun _ => ?_)
        clear hK' K' hbA
        (try simp only [Act.put, List.setIfInBounds_toArray, List.set_cons_zero, List.set_cons_succ, List.getElem_toArray, List.getElem_cons_succ, List.getElem_cons_zero])
        first | (refine wpAnyH_take (i := 2) (v := ?_) rfl (by kernel_rfl) (by kernel_rfl) (by kernel_rfl) (fun _ _ _ h => h) (Or.inl ⟨by rfl, ?_⟩) hK ?_; rotate_left; (focus (intro w' hSw; obtain ⟨z0, z1, z2, z3, z4, z5⟩ := hSw; go_simp; (try rw [if_neg (by omega)]); (try with_reducible rfl); done)); (try simp only [Act.put, List.setIfInBounds_toArray, List.set_cons_zero, List.set_cons_succ, List.getElem_toArray, List.getElem_cons_succ, List.getElem_cons_zero])) | (refine wpAnyH_take (i := 2) (v := undef) rfl (by kernel_rfl) (by kernel_rfl) (by kernel_rfl) (fun _ _ _ h => h) (Or.inr ⟨by rfl, rfl⟩) hK ?_; (try simp only [Act.put, List.setIfInBounds_toArray, List.set_cons_zero, List.set_cons_succ, List.getElem_toArray, List.getElem_cons_succ, List.getElem_cons_zero]))
        first | (refine wpAnyH_take (i := 3) (v := ?_) rfl (by kernel_rfl) (by kernel_rfl) (by kernel_rfl) (fun _ _ _ h => h) (Or.inl ⟨by rfl, ?_⟩) hK ?_; rotate_left; (focus (intro w' hSw; obtain ⟨z0, z1, z2, z3, z4, z5⟩ := hSw; go_simp; (try rw [if_neg (by omega)]); (try with_reducible rfl); done)); (try simp only [Act.put, List.setIfInBounds_toArray, List.set_cons_zero, List.set_cons_succ, List.getElem_toArray, List.getElem_cons_succ, List.getElem_cons_zero])) | (refine wpAnyH_take (i := 3) (v := undef) rfl (by kernel_rfl) (by kernel_rfl) (by kernel_rfl) (fun _ _ _ h => h) (Or.inr ⟨by rfl, rfl⟩) hK ?_; (try simp only [Act.put, List.setIfInBounds_toArray, List.set_cons_zero, List.set_cons_succ, List.getElem_toArray, List.getElem_cons_succ, List.getElem_cons_zero]))
        refine wpAnyH_ready (rs := [10]) (by kernel_rfl) (by simp) (AllReadyH.cons rfl (fun K' hK' => ?_) AllReadyH.nil)
        go_simp
        with_reducible refine (HD2.out _).mono ?_
        rintro e w4 ⟨rfl, hbA⟩
        (try dsimp only)
        (try (with_reducible have hbA := below_drew' hbA))
        have hX := hX.below hbA
        have hA := hA.below hbA
        have hY := hY.below hbA
        have hB := below_trans hB hbA
        have hK : S83 w.heap.size ab bb x.tl x.th lo1 hi1 lo2 hi2 w4 := S83.of hX hA hY
        refine hK'.out _ _ hK (fun _ => ?_)
        clear hK' K' hbA
        (try simp only [Act.put, List.setIfInBounds_toArray, List.set_cons_zero, List.set_cons_succ, List.getElem_toArray, List.getElem_cons_succ, List.getElem_cons_zero])
        first | (refine wpAnyH_take (i := 11) (v := ?_) rfl (by kernel_rfl) (by kernel_rfl) (by kernel_rfl) (fun _ _ _ h => h) (Or.inl ⟨by rfl, ?_⟩) hK ?_; rotate_left; (focus (intro w' hSw; obtain ⟨z0, z1, z2, z3, z4, z5⟩ := hSw; go_simp; (try rw [if_neg (by omega)]); (try with_reducible rfl); done)); (try simp only [Act.put, List.setIfInBounds_toArray, List.set_cons_zero, List.set_cons_succ, List.getElem_toArray, List.getElem_cons_succ, List.getElem_cons_zero])) | (refine wpAnyH_take (i := 11) (v := undef) rfl (by kernel_rfl) (by kernel_rfl) (by kernel_rfl) (fun _ _ _ h => h) (Or.inr ⟨by rfl, rfl⟩) hK ?_; (try simp only [Act.put, List.setIfInBounds_toArray, List.set_cons_zero, List.set_cons_succ, List.getElem_toArray, List.getElem_cons_succ, List.getElem_cons_zero]))
        first | (refine wpAnyH_take (i := 12) (v := ?_) rfl (by kernel_rfl) (by kernel_rfl) (by kernel_rfl) (fun _ _ _ h => h) (Or.inl ⟨by rfl, ?_⟩) hK ?_; rotate_left; (focus (intro w' hSw; obtain ⟨z0, z1, z2, z3, z4, z5⟩ := hSw; go_simp; (try rw [if_neg (by omega)]); (try with_reducible rfl); done)); (try simp only [Act.put, List.setIfInBounds_toArray, List.set_cons_zero, List.set_cons_succ, List.getElem_toArray, List.getElem_cons_succ, List.getElem_cons_zero])) | (refine wpAnyH_take (i := 12) (v := undef) rfl (by kernel_rfl) (by kernel_rfl) (by kernel_rfl) (fun _ _ _ h => h) (Or.inr ⟨by rfl, rfl⟩) hK ?_; (try simp only [Act.put, List.setIfInBounds_toArray, List.set_cons_zero, List.set_cons_succ, List.getElem_toArray, List.getElem_cons_succ, List.getElem_cons_zero]))
        refine wpAnyH_ready (rs := [19]) (by kernel_rfl) (by simp) (AllReadyH.cons rfl (fun K' hK' => ?_) AllReadyH.nil)
        go_simp
        with_reducible refine (HD3.out _).mono ?_
        rintro e w5 ⟨rfl, hbA⟩
        (try dsimp only)
        (try (with_reducible have hbA := below_drew' hbA))
        have hX := hX.below hbA
        have hA := hA.below hbA
        have hY := hY.below hbA
        have hB := below_trans hB hbA
        have hK : S83 w.heap.size ab bb x.tl x.th lo1 hi1 lo2 hi2 w5 := S83.of hX hA hY
        refine hK'.out _ _ hK (fun _ => ?_)
        clear hK' K' hbA
        (try simp only [Act.put, List.setIfInBounds_toArray, List.set_cons_zero, List.set_cons_succ, List.getElem_toArray, List.getElem_cons_succ, List.getElem_cons_zero])
        first | (refine wpAnyH_take (i := 20) (v := ?_) rfl (by kernel_rfl) (by kernel_rfl) (by kernel_rfl) (fun _ _ _ h => h) (Or.inl ⟨by rfl, ?_⟩) hK ?_; rotate_left; (focus (intro w' hSw; obtain ⟨z0, z1, z2, z3, z4, z5⟩ := hSw; go_simp; (try rw [if_neg (by omega)]); (try with_reducible rfl); done)); (try simp only [Act.put, List.setIfInBounds_toArray, List.set_cons_zero, List.set_cons_succ, List.getElem_toArray, List.getElem_cons_succ, List.getElem_cons_zero])) | (refine wpAnyH_take (i := 20) (v := undef) rfl (by kernel_rfl) (by kernel_rfl) (by kernel_rfl) (fun _ _ _ h => h) (Or.inr ⟨by rfl, rfl⟩) hK ?_; (try simp only [Act.put, List.setIfInBounds_toArray, List.set_cons_zero, List.set_cons_succ, List.getElem_toArray, List.getElem_cons_succ, List.getElem_cons_zero]))
        first | (refine wpAnyH_take (i := 21) (v := ?_) rfl (by kernel_rfl) (by kernel_rfl) (by kernel_rfl) (fun _ _ _ h => h) (Or.inl ⟨by rfl, ?_⟩) hK ?_; rotate_left; (focus (intro w' hSw; obtain ⟨z0, z1, z2, z3, z4, z5⟩ := hSw; go_simp; (try rw [if_neg (by omega)]); (try with_reducible rfl); done)); (try simp only [Act.put, List.setIfInBounds_toArray, List.set_cons_zero, List.set_cons_succ, List.getElem_toArray, List.getElem_cons_succ, List.getElem_cons_zero])) | (refine wpAnyH_take (i := 21) (v := undef) rfl (by kernel_rfl) (by kernel_rfl) (by kernel_rfl) (fun _ _ _ h => h) (Or.inr ⟨by rfl, rfl⟩) hK ?_; (try simp only [Act.put, List.setIfInBounds_toArray, List.set_cons_zero, List.set_cons_succ, List.getElem_toArray, List.getElem_cons_succ, List.getElem_cons_zero]))
        refine wpAnyH_ready (rs := [23]) (by kernel_rfl) (by simp) (AllReadyH.cons rfl (fun K' hK' => ?_) AllReadyH.nil)
        go_simp
        with_reducible refine (HT1.out _).mono ?_
        rintro e w6 ⟨rfl, hbA⟩
        (try dsimp only)
        (try (with_reducible have hbA := below_drew' hbA))
        have hX := hX.below hbA
        have hA := hA.below hbA
        have hY := hY.below hbA
        have hB := below_trans hB hbA
        have hK : S83 w.heap.size ab bb x.tl x.th lo1 hi1 lo2 hi2 w6 := S83.of hX hA hY
        refine hK'.out _ _ hK (fun _ => ?_)
        clear hK' K' hbA
        (try simp only [Act.put, List.setIfInBounds_toArray, List.set_cons_zero, List.set_cons_succ, List.getElem_toArray, List.getElem_cons_succ, List.getElem_cons_zero])
        first | (refine wpAnyH_take (i := 24) (v := ?_) rfl (by kernel_rfl) (by kernel_rfl) (by kernel_rfl) (fun _ _ _ h => h) (Or.inl ⟨by rfl, ?_⟩) hK ?_; rotate_left; (focus (intro w' hSw; obtain ⟨z0, z1, z2, z3, z4, z5⟩ := hSw; go_simp; (try rw [if_neg (by omega)]); (try with_reducible rfl); done)); (try simp only [Act.put, List.setIfInBounds_toArray, List.set_cons_zero, List.set_cons_succ, List.getElem_toArray, List.getElem_cons_succ, List.getElem_cons_zero])) | (refine wpAnyH_take (i := 24) (v := undef) rfl (by kernel_rfl) (by kernel_rfl) (by kernel_rfl) (fun _ _ _ h => h) (Or.inr ⟨by rfl, rfl⟩) hK ?_; (try simp only [Act.put, List.setIfInBounds_toArray, List.set_cons_zero, List.set_cons_succ, List.getElem_toArray, List.getElem_cons_succ, List.getElem_cons_zero]))
        first | (refine wpAnyH_take (i := 25) (v := ?_) rfl (by kernel_rfl) (by kernel_rfl) (by kernel_rfl) (fun _ _ _ h => h) (Or.inl ⟨by rfl, ?_⟩) hK ?_; rotate_left; (focus (intro w' hSw; obtain ⟨z0, z1, z2, z3, z4, z5⟩ := hSw; go_simp; (try rw [if_neg (by omega)]); (try with_reducible rfl); done)); (try simp only [Act.put, List.setIfInBounds_toArray, List.set_cons_zero, List.set_cons_succ, List.getElem_toArray, List.getElem_cons_succ, List.getElem_cons_zero])) | (refine wpAnyH_take (i := 25) (v := undef) rfl (by kernel_rfl) (by kernel_rfl) (by kernel_rfl) (fun _ _ _ h => h) (Or.inr ⟨by rfl, rfl⟩) hK ?_; (try simp only [Act.put, List.setIfInBounds_toArray, List.set_cons_zero, List.set_cons_succ, List.getElem_toArray, List.getElem_cons_succ, List.getElem_cons_zero]))
        refine wpAnyH_ready (rs := [27]) (by kernel_rfl) (by simp) (AllReadyH.cons rfl (fun K' hK' => ?_) AllReadyH.nil)
        go_simp
        with_reducible refine (HT2.out _).mono ?_
        rintro e w7 ⟨rfl, hbA⟩
        (try dsimp only)
        (try (with_reducible have hbA := below_drew' hbA))
        have hX := hX.below hbA
        have hA := hA.below hbA
        have hY := hY.below hbA
        have hB := below_trans hB hbA
        have hK : S83 w.heap.size ab bb x.tl x.th lo1 hi1 lo2 hi2 w7 := S83.of hX hA hY
        refine hK'.out _ _ hK (fun _ => ?_)
        clear hK' K' hbA
        (try simp only [Act.put, List.setIfInBounds_toArray, List.set_cons_zero, List.set_cons_succ, List.getElem_toArray, List.getElem_cons_succ, List.getElem_cons_zero])
        first | (refine wpAnyH_take (i := 28) (v := ?_) rfl (by kernel_rfl) (by kernel_rfl) (by kernel_rfl) (fun _ _ _ h => h) (Or.inl ⟨by rfl, ?_⟩) hK ?_; rotate_left; (focus (intro w' hSw; obtain ⟨z0, z1, z2, z3, z4, z5⟩ := hSw; go_simp; (try rw [if_neg (by omega)]); (try with_reducible rfl); done)); (try simp only [Act.put, List.setIfInBounds_toArray, List.set_cons_zero, List.set_cons_succ, List.getElem_toArray, List.getElem_cons_succ, List.getElem_cons_zero])) | (refine wpAnyH_take (i := 28) (v := undef) rfl (by kernel_rfl) (by kernel_rfl) (by kernel_rfl) (fun _ _ _ h => h) (Or.inr ⟨by rfl, rfl⟩) hK ?_; (try simp only [Act.put, List.setIfInBounds_toArray, List.set_cons_zero, List.set_cons_succ, List.getElem_toArray, List.getElem_cons_succ, List.getElem_cons_zero]))
        first | (refine wpAnyH_take (i := 29) (v := ?_) rfl (by kernel_rfl) (by kernel_rfl) (by kernel_rfl) (fun _ _ _ h => h) (Or.inl ⟨by rfl, ?_⟩) hK ?_; rotate_left; (focus (intro w' hSw; obtain ⟨z0, z1, z2, z3, z4, z5⟩ := hSw; go_simp; (try rw [if_neg (by omega)]); (try with_reducible rfl); done)); (try simp only [Act.put, List.setIfInBounds_toArray, List.set_cons_zero, List.set_cons_succ, List.getElem_toArray, List.getElem_cons_succ, List.getElem_cons_zero])) | (refine wpAnyH_take (i := 29) (v := undef) rfl (by kernel_rfl) (by kernel_rfl) (by kernel_rfl) (fun _ _ _ h => h) (Or.inr ⟨by rfl, rfl⟩) hK ?_; (try simp only [Act.put, List.setIfInBounds_toArray, List.set_cons_zero, List.set_cons_succ, List.getElem_toArray, List.getElem_cons_succ, List.getElem_cons_zero]))
        first | (refine wpAnyH_take (i := 30) (v := ?_) rfl (by kernel_rfl) (by kernel_rfl) (by kernel_rfl) (fun _ _ _ h => h) (Or.inl ⟨by rfl, ?_⟩) hK ?_; rotate_left; (focus (intro w' hSw; obtain ⟨z0, z1, z2, z3, z4, z5⟩ := hSw; go_simp; (try rw [if_neg (by omega)]); (try with_reducible rfl); done)); (try simp only [Act.put, List.setIfInBounds_toArray, List.set_cons_zero, List.set_cons_succ, List.getElem_toArray, List.getElem_cons_succ, List.getElem_cons_zero])) | (refine wpAnyH_take (i := 30) (v := undef) rfl (by kernel_rfl) (by kernel_rfl) (by kernel_rfl) (fun _ _ _ h => h) (Or.inr ⟨by rfl, rfl⟩) hK ?_; (try simp only [Act.put, List.setIfInBounds_toArray, List.set_cons_zero, List.set_cons_succ, List.getElem_toArray, List.getElem_cons_succ, List.getElem_cons_zero]))
        refine wpAnyH_done (by kernel_rfl) (NoPanic.normal ?_) _
        (try simp only [Act.put, List.setIfInBounds_toArray, List.set_cons_zero, List.set_cons_succ, List.getElem_toArray, List.getElem_cons_succ, List.getElem_cons_zero])
        go_wp2_with fail
        go_ret2
        exact ⟨ret_tup2 (congrArg Value.string HEQ.out) (vint HEE.out.symm), hB⟩
end Go.Proofs.YtmglbegbijofkaaGreatDoor
namespace Go.Proofs.YtmglbegbijofkaaGreatDoor
open Go.RowKit
set_option maxRecDepth 100000 in
set_option maxHeartbeats 800000 in
theorem law3 (x : Impact) (n0 n1 n2 : Int) (s : List UInt8) (hs : s.length ≤ 8796093022000) (w : World) (ht : Tab10 w) :
    Calls Tryz.prog 3 #[.agg #[.int .i64 x.p, .int .i64 x.xl, .int .i64 x.xh, .int .i64 x.yl, .int .i64 x.yh, .int .i64 x.tl, .int .i64 x.th], .agg #[.int .i64 n0, .int .i64 n1, .int .i64 n2], .string ⟨s.toArray⟩] w fun e w' => e = .returned (.bool true) ∧ Below w.heap.size w w' := by
  have HT := Lib.hid ht
  clear ht
  have HN1 := Lib.hid (fun W (h : Tab10 W) => notice_any x n0 n1 n2 W h)
  have HN2 := Lib.hid (fun W => rnotice_any x n0 n1 n2 W)
  have HP1 := Lib.hid (fun W => parse_any s hs W)
  have HP2 := Lib.hid (fun W => rparse_any s hs W)
  unfold NoticeEnd at HN1 HN2
  unfold ParseEnd ntV ntc at HP1 HP2
  generalize bstr (noticeS x n0 n1 n2) = RS at *
  generalize noticeE x n0 n1 n2 = RE at *
  generalize parseE s = PE at *
  generalize parseN s = pn at *
  obtain ⟨p0, p1, p2, p3, p4, p5, p6, p7⟩ := pn
  obtain ⟨xp, xxl, xxh, xyl, xyh, xtl, xth⟩ := x
  simp only at HN1 HN2 HP1 HP2
  go_enter Tryz.func3, Tryz.ntmps3
  go_wp2_with fail
  obtain ⟨hX, hN, hz, hB⟩ := alloc2 w #[.int .i64 xp, .int .i64 xxl, .int .i64 xxh, .int .i64 xyl, .int .i64 xyh, .int .i64 xtl, .int .i64 xth] #[.int .i64 n0, .int .i64 n1, .int .i64 n2] 27 28
  clear hz
  generalize (w.alloc (.cells #[.int .i64 xp, .int .i64 xxl, .int .i64 xxh, .int .i64 xyl, .int .i64 xyh, .int .i64 xtl, .int .i64 xth] 27)).alloc (.cells #[.int .i64 n0, .int .i64 n1, .int .i64 n2] 28) = W0 at *
  refine (HN1.out _ (HT.out.below hB)).mono ?_
  rintro e w1 ⟨rfl, hb1⟩
  have hX := hX.below hb1
  have hN := hN.below hb1
  have hB := below_trans hB hb1
  obtain ⟨d0, d1, d2, d3, d4, d5, d6⟩ := cells7x hX
  obtain ⟨k0, k1, k2⟩ := cells3 hN
  go_wp2_with fail
  refine (HN2.out _).mono ?_
  rintro e w2 ⟨rfl, hb2⟩
  clear d0 d1 d2 d3 d4 d5 d6 k0 k1 k2 hX hN
  have hB := below_trans hB hb2
  go_wp2_with fail
  refine (HP1.out _).mono ?_
  rintro e w3 ⟨rfl, hb3⟩
  have hB := below_trans hB hb3
  have hR := cellsNew w3 #[.int .i64 p0, .bool p1, .int .i64 p2, .int .i64 p3, .int .i64 p4, .int .i64 p5, .int .i64 p6, .int .i64 p7] 33
  have hbR : Below w3.heap.size w3 (w3.alloc (.cells #[.int .i64 p0, .bool p1, .int .i64 p2, .int .i64 p3, .int .i64 p4, .int .i64 p5, .int .i64 p6, .int .i64 p7] 33)) := balloc (Below.refl _ _) _
  have hB := below_trans hB hbR
  go_wp2_with fail
  generalize w3.alloc (.cells #[.int .i64 p0, .bool p1, .int .i64 p2, .int .i64 p3, .int .i64 p4, .int .i64 p5, .int .i64 p6, .int .i64 p7] 33) = W4 at *
  refine (HP2.out _).mono ?_
  rintro e w5 ⟨rfl, hb5⟩
  have hB := below_trans hB hb5
  have hR2 := cellsNew w5 #[.int .i64 p0, .bool p1, .int .i64 p2, .int .i64 p3, .int .i64 p4, .int .i64 p5, .int .i64 p6, .int .i64 p7] 33
  have hbR2 : Below w5.heap.size w5 (w5.alloc (.cells #[.int .i64 p0, .bool p1, .int .i64 p2, .int .i64 p3, .int .i64 p4, .int .i64 p5, .int .i64 p6, .int .i64 p7] 33)) := balloc (Below.refl _ _) _
  have hB := below_trans hB hbR2
  have hR := (hR.below hb5).below hbR2
  obtain ⟨y0, y1, y2, y3, y4, y5, y6, y7⟩ := cells8 hR
  obtain ⟨z0, z1, z2, z3, z4, z5, z6, z7⟩ := cells8 hR2
  go_wp2_with fail
  refine (awake_true _ (HT.out.below hB)).mono ?_
  rintro e w6 ⟨rfl, hb6⟩
  go_wp2_with fail
  go_ret
  exact ⟨rfl, below_trans hB hb6⟩
end Go.Proofs.YtmglbegbijofkaaGreatDoor
