import Derived.Test.YtmglbegbijofkaaGreatDoorQ21
import Derived.Test.YtmglbegbijofkaaGreatDoorQ08
import Derived.Test.YtmglbegbijofkaaGreatDoorQ05
set_option linter.unusedVariables false
set_option linter.unusedSimpArgs false
namespace Go.Proofs.YtmglbegbijofkaaGreatDoor
open Go.RowKit Go.Shelf Go.Sort

def exZ : List Int := [5, 100, 0, 20, 100, 7]
def strike : Impact := ⟨0, 60000, 70000, 0, 0, 220, 260⟩
def ferryS : List Sight := [⟨100, 0, 0, 0, 1000⟩, ⟨200, 40000, 0, 0, 0⟩]
def ferry (v : Value) : Craft := ⟨⟨#[102, 101, 114, 114, 121]⟩, 500, 0, 0, 0, v, ferryS⟩
theorem ex_ask : askE 0 0 1000 3 2 exZ 0 2999999 0 1999999 0 300000 = 0 := by decide +kernel
theorem ex_cells : cellsL 0 0 1000 3 2 0 2999999 0 1999999 = [0, 1, 2, 3, 4, 5] := by decide +kernel
theorem ex_more : cellsM 0 0 1000 3 2 0 2999999 0 1999999 = false := by decide +kernel
theorem ex_st : stS exZ (by decide) [0, 1, 2, 3, 4, 5] = [1, 4, 3, 5, 0, 2] := by decide +kernel
theorem ex_gv : gv exZ 300000 [1, 4, 3, 5, 0, 2] = ([(1, 300000), (4, 300000), (3, 300000), (5, 100000)], 0, 7) := by decide +kernel
theorem ex_ppl : ppl exZ [(1, 300000), (4, 300000), (3, 300000), (5, 100000)] = 66700000 := by decide +kernel
theorem ex_ships (v : Value) : shipsR [strike] [ferry v] = (0, [(0, 0, 240)]) := by kernel_rfl
theorem ex_noticeE : noticeE strike 17 500000 100 = 0 := by decide +kernel
theorem ex_noticeS : noticeS strike 17 500000 100 = [78, 79, 84, 73, 67, 69, 32, 49, 55, 32, 70, 82, 79, 77, 32, 49, 50, 48, 32, 85, 78, 84, 73, 76, 32, 51, 54, 48, 32, 88, 32, 45, 49, 32, 49, 32, 89, 32, 45, 49, 32, 49] := by decide +kernel
theorem ex_words : wordsL [67, 65, 78, 67, 69, 76] = [[67, 65, 78, 67, 69, 76]] := by decide +kernel

set_option maxHeartbeats 400000 in
theorem box_any (a b c d : Int) (w : World) : Calls Tryz.prog 60 #[.int .i64 a, .int .i64 b, .int .i64 c, .int .i64 d] w fun e w' => e = .returned (.agg #[.int .i64 a, .int .i64 b, .int .i64 c, .int .i64 d]) ∧ Below w.heap.size w w' := by
  go_enter Tryz.func60, Tryz.ntmps60
  go_wp2_with fail
  exact bodyPost_ret (v := .agg #[.int .i64 a, .int .i64 b, .int .i64 c, .int .i64 d]) (by simp [results, Tryz.results60, go_sem]) rfl ⟨rfl, (by repeat (first | exact Below.refl _ _ | assumption | refine balloc ?_ _ | refine below_trans ?_ (by assumption) | refine Below.drew ?_ | refine below_drewN ?_ _ | refine Below.setCell ?_ (by simp <;> omega) _))⟩
set_option maxHeartbeats 400000 in
theorem map_any (w : World) : Calls Tryz.prog 59 #[] w fun e w' => ∃ v, e = .returned (.agg #[.int .i64 0, .int .i64 0, .int .i64 1000, .int .i64 3, .int .i64 2, v]) ∧ IntsAt w' v exZ ∧ Below w.heap.size w w' := by
  go_enter Tryz.func59, Tryz.ntmps59
  go_wp2_with fail
  refine bodyPost_ret (v := .agg #[.int .i64 0, .int .i64 0, .int .i64 1000, .int .i64 3, .int .i64 2, .slice (some ⟨w.heap.size + 1, 0, none⟩) 6 6]) (by simp [results, Tryz.results59, go_sem]) rfl ⟨_, rfl, ?_, (by repeat (first | exact Below.refl _ _ | assumption | refine balloc ?_ _ | refine below_trans ?_ (by assumption) | refine Below.drew ?_ | refine below_drewN ?_ _ | refine Below.setCell ?_ (by simp <;> omega) _))⟩
  refine row_new (alloc2 w _ _ 42 3).2.1 (fun i hi => ?_)
  have : i = 0 ∨ i = 1 ∨ i = 2 ∨ i = 3 ∨ i = 4 ∨ i = 5 := by simp [exZ] at hi; omega
  rcases this with rfl | rfl | rfl | rfl | rfl | rfl <;> rfl
set_option maxHeartbeats 400000 in
theorem strike_any (w : World) : Calls Tryz.prog 62 #[] w fun e w' => e = .returned (.agg #[.int .i64 0, .int .i64 60000, .int .i64 70000, .int .i64 0, .int .i64 0, .int .i64 220, .int .i64 260]) ∧ Below w.heap.size w w' := by
  go_enter Tryz.func62, Tryz.ntmps62
  go_wp2_with fail
  refine (box_any _ _ _ _ _).mono ?_
  rintro e w1 ⟨rfl, hb⟩
  obtain ⟨hc, hf⟩ := bcell hb
  have hz := hb.size
  simp at hz
  go_wp2_with fail
  have hx : cellsAt w1 w.heap.size 27 #[.int .i64 0, .int .i64 0, .int .i64 0, .int .i64 0, .int .i64 0, .int .i64 0, .int .i64 0] := (cellsNew w _ 27).below hb
  have d0 := hx.cell 0
  have d1 := hx.cell 1
  have d2 := hx.cell 2
  have d3 := hx.cell 3
  have d4 := hx.cell 4
  have d5 := hx.cell 5
  have d6 := hx.cell 6
  simp at d0 d1 d2 d3 d4 d5 d6
  refine bodyPost_ret (v := .agg #[.int .i64 0, .int .i64 60000, .int .i64 70000, .int .i64 0, .int .i64 0, .int .i64 220, .int .i64 260]) (by simp [results, Tryz.results62, go_sem, d0, d1, d2, d3, d4, d5, d6]) rfl ⟨rfl, ?_⟩
  have hb0 : Below w.heap.size w w1 := below_trans (balloc (Below.refl _ _) _) hb
  exact ((((((hb0.setCell (p := ⟨w.heap.size, 0, none⟩) (Nat.le_refl _) _).setCell (p := ⟨w.heap.size, 1, none⟩) (Nat.le_refl _) _).setCell (p := ⟨w.heap.size, 2, none⟩) (Nat.le_refl _) _).setCell (p := ⟨w.heap.size, 3, none⟩) (Nat.le_refl _) _).setCell (p := ⟨w.heap.size, 4, none⟩) (Nat.le_refl _) _).setCell (p := ⟨w.heap.size, 5, none⟩) (Nat.le_refl _) _).setCell (p := ⟨w.heap.size, 6, none⟩) (Nat.le_refl _) _
set_option maxHeartbeats 400000 in
theorem ferry_any (w : World) : Calls Tryz.prog 61 #[] w fun e w' => ∃ v, e = .returned (.agg #[.string ⟨#[102, 101, 114, 114, 121]⟩, .int .i64 500, .int .i64 0, .int .i64 0, .int .i64 0, v]) ∧ SightsAt w' v ferryS ∧ Below w.heap.size w w' := by
  go_enter Tryz.func61, Tryz.ntmps61
  go_wp2_with fail
  refine bodyPost_ret (v := .agg #[.string ⟨#[102, 101, 114, 114, 121]⟩, .int .i64 500, .int .i64 0, .int .i64 0, .int .i64 0, .slice (some ⟨w.heap.size + 1, 0, none⟩) 2 2]) (by simp [results, Tryz.results61, go_sem]) rfl ⟨_, rfl, ?_, (by repeat (first | exact Below.refl _ _ | assumption | refine balloc ?_ _ | refine below_trans ?_ (by assumption) | refine Below.drew ?_ | refine below_drewN ?_ _ | refine Below.setCell ?_ (by simp <;> omega) _))⟩
  refine row_new (alloc2 w _ _ 63 77).2.1 (fun i hi => ?_)
  have : i = 0 ∨ i = 1 ∨ i = 2 ∨ i = 3 ∨ i = 4 ∨ i = 5 ∨ i = 6 ∨ i = 7 ∨ i = 8 ∨ i = 9 := by simp [ferryS] at hi; omega
  rcases this with rfl | rfl | rfl | rfl | rfl | rfl | rfl | rfl | rfl | rfl <;> rfl
theorem most_ex (v : Value) (w : World) (hv : IntsAt w v exZ) : Calls Tryz.prog 25 #[.agg #[.int .i64 0, .int .i64 0, .int .i64 1000, .int .i64 3, .int .i64 2, v], .agg #[.int .i64 0, .int .i64 2999999, .int .i64 0, .int .i64 1999999], .agg #[.int .i64 0, .int .i64 300000]] w fun e w' =>
    ∃ a n c, e = .returned (.tuple #[.agg #[.slice a n c, .int .i64 0, .int .i64 7], .int .i64 66700000, .int .i64 0]) ∧ Below w.heap.size w w' := by
  have hst := stable_list exZ (by decide) [0, 1, 2, 3, 4, 5] (by decide) (by decide)
  rw [ex_st] at hst
  have h := most_ok 0 0 1000 3 2 v exZ 0 2999999 0 1999999 0 300000 w hv (by decide) ex_ask [1, 4, 3, 5, 0, 2] (by rw [ex_cells]; exact hst) (by rw [ex_cells]; rfl) (by decide) (by decide) (by decide)
  rw [ex_gv, ex_more] at h
  refine h.mono fun e w' hp => ?_
  rcases hp with ⟨h0, _⟩ | ⟨_, v', qs, he, _, _, hs, hb⟩
  · simp at h0
  · obtain ⟨a, c, rfl, _⟩ := hs
    exact ⟨a, _, c, he.trans (by simp only [ex_ppl]; rfl), hb⟩
theorem parse_cancel (w : World) : Calls Tryz.prog 22 #[.string ⟨#[67, 65, 78, 67, 69, 76]⟩] w fun e w' => e = .returned (.tuple #[.agg zeroN, .int .i64 6]) ∧ Below w.heap.size w w' :=
  parse_one [67, 65, 78, 67, 69, 76] (by decide) _ ex_words (by decide) w
theorem ships_ex (vl vc cv : Value) (w : World) (hl : ImpactsAt w vl [strike]) (hc : CraftsAt w vc [ferry cv]) : Calls Tryz.prog 34 #[vl, vc] w fun e w' =>
    ∃ g c, e = .returned (.tuple #[.slice (some ⟨g, 0, none⟩) 1 c, .int .i64 0]) ∧ w'.cell? ⟨g, 0, none⟩ = some (.int .i64 0) ∧ w'.cell? ⟨g, 1, none⟩ = some (.int .i64 0) ∧ w'.cell? ⟨g, 2, none⟩ = some (.int .i64 240) ∧ Below w.heap.size w w' := by
  have h := ships_any vl vc [strike] [ferry cv] w hl hc (by simp) (by simp)
  rw [ex_ships] at h
  refine h.mono fun e w' hp => ?_
  obtain ⟨v, he, ⟨_, ⟨_, h0⟩ | ⟨g, cap, cur, rfl, h4, h5, h6, h7, h8, h9⟩⟩, hb⟩ := hp
  · simp at h0
  · have hcur : ∀ i, i < 3 → w'.cell? ⟨g, i, none⟩ = ([.int .i64 0, .int .i64 0, .int .i64 240] : List Value)[i]? := fun i hi => by
      have : (mtc [(0, 0, 240)])[i]? = ([.int .i64 0, .int .i64 0, .int .i64 240] : List Value)[i]? := rfl
      rw [← this, ← h9, List.getElem?_take_of_lt (by simpa using hi)]
      unfold World.cell?
      rw [h5]
      simp
    exact ⟨g, cap, he, hcur 0 (by decide), hcur 1 (by decide), hcur 2 (by decide), hb⟩
set_option maxRecDepth 100000 in
set_option maxHeartbeats 800000 in
theorem awake_true (w : World) (ht : Tab10 w) : Calls Tryz.prog 24 #[] w fun e w' => e = .returned (.bool true) ∧ Below w.heap.size w w' := by
  have HT := Lib.hid ht
  clear ht
  go_enter Tryz.func24, Tryz.ntmps24
  go_wp2_with fail
  refine (map_any _).mono ?_
  rintro e w1 ⟨v, rfl, hv, hb1⟩
  have HV := Lib.hid hv
  clear hv
  go_wp2_with fail
  refine (box_any _ _ _ _ _).mono ?_
  rintro e w2 ⟨rfl, hb2⟩
  go_wp2_with fail
  refine (most_ex v w2 (HV.out.below hb2)).mono ?_
  rintro e w3 ⟨a3, n3, c3, rfl, hb3⟩
  have hB3 := below_trans (below_trans hb1 hb2) hb3
  clear hb1 hb2 hb3 HV
  go_wp2_with fail
  refine (strike_any _).mono ?_
  rintro e w4 ⟨rfl, hb4⟩
  have hB4 : Below w.heap.size w w4 := below_trans (balloc hB3 _) hb4
  clear hb4 hB3
  go_wp2_with fail
  have him : ImpactsAt (w4.alloc (.cells #[.int .i64 0, .int .i64 60000, .int .i64 70000, .int .i64 0, .int .i64 0, .int .i64 220, .int .i64 260] 27)) (.slice (some ⟨w4.heap.size, 0, none⟩) 1 1) [strike] := by
    refine row_new (cellsNew w4 _ 27) (fun i hi => ?_)
    have : i = 0 ∨ i = 1 ∨ i = 2 ∨ i = 3 ∨ i = 4 ∨ i = 5 ∨ i = 6 := by simp at hi; omega
    rcases this with rfl | rfl | rfl | rfl | rfl | rfl | rfl <;> rfl
  have HIM := Lib.hid him
  clear him
  refine (ferry_any _).mono ?_
  rintro e w5 ⟨cv, rfl, hcv, hb5⟩
  have hB5 : Below w.heap.size w w5 := below_trans (balloc hB4 _) hb5
  have HIM5 := Lib.hid (HIM.out.below hb5)
  obtain ⟨ca, cc, rfl, hxx⟩ := id hcv
  clear hb5 hB4 HIM hxx
  simp only [ferryS, List.length_cons, List.length_nil] at hcv ⊢
  have hcr : CraftsAt (w5.alloc (.cells #[.string ⟨#[102, 101, 114, 114, 121]⟩, .int .i64 500, .int .i64 0, .int .i64 0, .int .i64 0, .slice ca 2 cc] 63)) (.slice (some ⟨w5.heap.size, 0, none⟩) 1 1) [ferry (.slice ca 2 cc)] := by
    refine ⟨row_new (cellsNew w5 _ 63) (fun i hi => ?_), fun k hk => ?_, fun k hk => ?_, fun k hk => ?_⟩
    · have : i = 0 ∨ i = 1 ∨ i = 2 ∨ i = 3 ∨ i = 4 ∨ i = 5 := by simp at hi; omega
      rcases this with rfl | rfl | rfl | rfl | rfl | rfl <;> rfl
    · obtain rfl : k = 0 := by simp at hk; omega
      exact hcv.below (balloc (Below.refl _ _) _)
    · obtain rfl : k = 0 := by simp at hk; omega
      show (5 : Nat) ≤ _
      decide
    · obtain rfl : k = 0 := by simp at hk; omega
      show (2 : Nat) ≤ _
      decide
  have HCR := Lib.hid hcr
  clear hcr hcv
  go_wp2_with fail
  refine (ships_ex _ _ _ _ (HIM5.out.below (balloc (Below.refl _ _) _)) HCR.out).mono ?_
  rintro e w6 ⟨g, c6, rfl, g0, g1, g2, hb6⟩
  have hB6 : Below w.heap.size w w6 := below_trans (balloc hB5 _) hb6
  clear hb6 hB5 HIM5 HCR
  go_wp2_with fail
  refine (strike_any _).mono ?_
  rintro e w7 ⟨rfl, hb7⟩
  have hB7 := below_trans hB6 hb7
  have g0 := below_cell hb7 g0
  have g1 := below_cell hb7 g1
  have g2 := below_cell hb7 g2
  clear hb7 hB6
  go_wp2_with fail
  have hno := notice_any strike 17 500000 100 w7 (HT.out.below hB7)
  rw [ex_noticeE, ex_noticeS] at hno
  unfold NoticeEnd bstr at hno
  have HNO := Lib.hid hno
  clear hno
  refine HNO.out.mono ?_
  rintro e w8 ⟨rfl, hb8⟩
  have hB8 := below_trans hB7 hb8
  have g0 := below_cell hb8 g0
  have g1 := below_cell hb8 g1
  have g2 := below_cell hb8 g2
  clear hb8 hB7 HNO
  go_wp2_with fail
  refine (parse_cancel _).mono ?_
  rintro e w9 ⟨rfl, hb9⟩
  have hB9 := below_trans hB8 hb9
  have g0 := alloc_cell (below_cell hb9 g0) (.cells zeroN 33)
  have g1 := alloc_cell (below_cell hb9 g1) (.cells zeroN 33)
  have g2 := alloc_cell (below_cell hb9 g2) (.cells zeroN 33)
  unfold zeroN ntc at *
  clear hb9 hB8
  have heq : ∀ w : World, (binOp .eql 85 (.agg #[.int .i64 0, .int .i64 0, .int .i64 240]) (.agg #[.int .i64 0, .int .i64 0, .int .i64 240])).run Tryz.prog w = .ok (.bool true) w := fun _ => by kernel_rfl
  go_wp2_with fail
  go_ret
  exact ⟨rfl, balloc hB9 _⟩
end Go.Proofs.YtmglbegbijofkaaGreatDoor
namespace Go.Proofs.YtmglbegbijofkaaGreatDoor
open Go.RowKit
end Go.Proofs.YtmglbegbijofkaaGreatDoor
