import Derived.Test.YtmglbegbijofkaaGreatDoorW49
set_option linter.unusedVariables false
set_option linter.unusedSimpArgs false
namespace Go.Proofs.YtmglbegbijofkaaGreatDoor
open Go.RowKit Go.Maps Go.Sort Go.Shelf
theorem words_bound : ∀ (s : List UInt8), ∀ w ∈ wordsL s, w.length ≤ s.length
  | [], w, h => by simp [wordsL] at h; subst h; simp
  | c :: s, w, h => by
    have ih := words_bound s
    by_cases hc : c = 32
    · simp only [wordsL, if_pos hc] at h
      rcases List.mem_cons.1 h with rfl | h
      · simp
      · have := ih w h; simp; omega
    · simp only [wordsL, if_neg hc] at h
      cases hw : wordsL s with
      | nil => exact absurd hw (wordsL_ne s)
      | cons a l =>
        rw [hw] at h ih
        simp only at h
        rcases List.mem_cons.1 h with rfl | h
        · have := ih a (by simp); simp; omega
        · have := ih w (by simp [h]); simp; omega
def ParseEnd (x : NT) (k : Int) : Ending := .returned (.tuple #[.agg (ntV x), .int .i64 k])
set_option maxRecDepth 100000 in
set_option maxHeartbeats 2000000 in
theorem parse_any (s : List UInt8) (hs : s.length ≤ 8796093022000) (w : World) :
    Calls Tryz.prog 22 #[.string ⟨s.toArray⟩] w fun e w' => e = ParseEnd (parseN s) (parseE s) ∧ Below w.heap.size w w' := by
  have hmf : ∀ (fn : Fn) (first cap : Array Value) (w : World), (Instr.makeFunc fn first cap).run Tryz.prog w = .ok (.func fn first cap) w := fun _ _ _ _ => rfl
  have HSZ : Hid (∀ x ∈ wordsL s, x.length ≤ 8796093022000) := show ∀ _ _, _ from fun x hx => Nat.le_trans (words_bound s x hx) hs
  have HNE := Lib.hid (wordsL_ne s)
  generalize hPN : parseN s = pn
  generalize hPE : parseE s = pe
  have HPN := Lib.hid hPN
  have HPE := Lib.hid hPE
  clear hPN hPE
  go_enter_defers Tryz.func22, Tryz.ntmps22
  go_wp2_with fail
  refine (words_any _ _).mono ?_
  rintro e w1 ⟨rfl, rfl⟩
  go_wp2_with fail
  have hB0 : Below w.heap.size w (((w.alloc (.cells (ntc 0 false 0 0 0 0 0 0) 33)).alloc (.cells #[.int .i64 0] 29)).alloc (.cells #[.string ⟨s.toArray⟩] 9)) := (by repeat (first | exact Below.refl _ _ | assumption | refine balloc ?_ _ | refine below_trans ?_ (by assumption) | refine Below.drew ?_ | refine below_drewN ?_ _ | refine Below.setCell ?_ (by simp <;> omega) _))
  have hx0 : cellsAt (((w.alloc (.cells (ntc 0 false 0 0 0 0 0 0) 33)).alloc (.cells #[.int .i64 0] 29)).alloc (.cells #[.string ⟨s.toArray⟩] 9)) w.heap.size 33 zeroN :=
    (Below.heap_alloc _ _ _ (by simp; omega)).trans ((Below.heap_alloc _ _ _ (by simp)).trans (World.alloc_heap_new w _))
  have he0 : cellsAt (((w.alloc (.cells (ntc 0 false 0 0 0 0 0 0) 33)).alloc (.cells #[.int .i64 0] 29)).alloc (.cells #[.string ⟨s.toArray⟩] 9)) (w.heap.size + 1) 29 #[.int .i64 0] := by
    have h1 := World.alloc_heap_new (w.alloc (.cells (ntc 0 false 0 0 0 0 0 0) 33)) (.cells #[.int .i64 0] 29)
    rw [World.size_alloc] at h1
    exact (Below.heap_alloc _ _ _ (by simp)).trans h1
  have hs0 : (((w.alloc (.cells (ntc 0 false 0 0 0 0 0 0) 33)).alloc (.cells #[.int .i64 0] 29)).alloc (.cells #[.string ⟨s.toArray⟩] 9)).heap[w.heap.size + 1 + 1]? = some (.cells #[.string ⟨s.toArray⟩] 9 (0, 0)) := by
    have h1 := World.alloc_heap_new ((w.alloc (.cells (ntc 0 false 0 0 0 0 0 0) 33)).alloc (.cells #[.int .i64 0] 29)) (.cells #[.string ⟨s.toArray⟩] 9)
    rw [World.size_alloc, World.size_alloc] at h1
    exact h1
  have hz0 : (((w.alloc (.cells (ntc 0 false 0 0 0 0 0 0) 33)).alloc (.cells #[.int .i64 0] 29)).alloc (.cells #[.string ⟨s.toArray⟩] 9)).heap.size = w.heap.size + 3 := by simp
  unfold ntc at hB0 hx0 he0 hs0 hz0
  have HX0 := Lib.hid hx0
  have HE0 := Lib.hid he0
  have HS0 := Lib.hid hs0
  have HZ0 := Lib.hid hz0
  clear hx0 he0 hs0 hz0
  generalize ((w.alloc (.cells #[.int .i64 0, .bool false, .int .i64 0, .int .i64 0, .int .i64 0, .int .i64 0, .int .i64 0, .int .i64 0] 33)).alloc (.cells #[.int .i64 0] 29)).alloc (.cells #[.string ⟨s.toArray⟩] 9) = W0 at *
  refine (collect_words cutSp (w.heap.size + 1 + 1) s hs W0 HS0.out).mono ?_
  rintro e w2 ⟨v, rfl, hrow, hb⟩
  have HNP : Hid (parseN s = (match formV (wordsL s) with | none => zeroNT | some x => if rangeB x then zeroNT else x)) := show _ = _ from rfl
  have HEP : Hid (parseE s = (match formV (wordsL s) with | none => 6 | some x => if rangeB x then 7 else 0)) := show _ = _ from rfl
  generalize wordsL s = ws at *
  have hwl : 0 < ws.length := List.length_pos_iff.2 HNE.out
  obtain ⟨g, cap, cur, rfl, hg1, hg2, hg3, hg4, hg5, hg6⟩ : ∃ g cap cur, v = .slice (some ⟨g, 0, none⟩) ws.length cap ∧ w.heap.size + 1 + 1 + 1 ≤ g ∧ w2.heap[g]? = some (.cells cur 9 (0, 0)) ∧ ws.length ≤ cap ∧ cap ≤ maxLen ∧ cur.size = cap * 1 ∧ cur.toList.take (ws.length * 1) = ws.map encStr := by
    rcases hrow.2 with ⟨_, h0⟩ | h'
    · exact absurd h0 (by simpa using HNE.out)
    · simpa using h'
  have hglt : g < w2.heap.size := (Array.getElem?_eq_some_iff.1 hg2).1
  have hgc : ∀ i, i < ws.length → w2.cell? ⟨g, i, none⟩ = some (encStr (ws[i]?.getD [])) := fun i hi => by
    have h1 : (ws.map encStr)[i]? = some (encStr (ws[i]?.getD [])) := by simp [hi]
    rw [← hg6, List.getElem?_take_of_lt (by omega), Array.getElem?_toList] at h1
    simp [World.cell?, hg2, h1]
  have hz2 : w.heap.size + 3 ≤ w2.heap.size := by have := hb.size; rw [HZ0.out] at this; omega
  have hx2 : cellsAt w2 w.heap.size 33 zeroN := (hb.block _ (by omega)).trans HX0.out
  have he2 : cellsAt w2 (w.heap.size + 1) 29 #[.int .i64 0] := (hb.block _ (by omega)).trans HE0.out
  have hB2 : Below w.heap.size w w2 := hB0.trans (hb.mono (by omega))
  have hrd : RdAt (w2.alloc (.cells #[.slice (some ⟨g, 0, none⟩) ws.length cap] 141)) w2.heap.size ws := by
    obtain ⟨hc1, hf1⟩ := cell_of_box_a (World.alloc_heap_new w2 (.cells #[.slice (some ⟨g, 0, none⟩) ws.length cap] 141))
    refine ⟨_, cap, hc1, hf1, hg3, .inr ⟨g, 0, rfl, hglt, fun i hi => ?_⟩⟩
    have := ((balloc (Below.refl _ w2) (.cells #[.slice (some ⟨g, 0, none⟩) ws.length cap] 141)).cell (p := ⟨g, i, none⟩) hglt).trans (hgc i hi)
    simpa using this
  have HRD := Lib.hid hrd
  have HX2 := Lib.hid hx2
  have HE2 := Lib.hid he2
  clear hrd hx2 he2 hrow hg6 hg5 hg2 hgc
  go_wp2_with fail
  refine (noticeR_any w2.heap.size ws _ HRD.out HSZ.out).mono ?_
  rintro e w3 ⟨hne, hg3⟩
  have hx3 : cellsAt w3 w.heap.size 33 zeroN := (hg3.block _ (by simp; omega) (ne_some (by omega))).trans ((Below.heap_alloc _ _ _ (by omega)).trans HX2.out)
  have he3 : cellsAt w3 (w.heap.size + 1) 29 #[.int .i64 0] := (hg3.block _ (by simp; omega) (ne_some (by omega))).trans ((Below.heap_alloc _ _ _ (by omega)).trans HE2.out)
  have hB3 : Below w.heap.size w w3 := (balloc hB2 _).grown hg3 (by simp; omega) (fun k e => by cases e; omega)
  unfold NotEnd at hne
  have hcase : (∃ k, e = .panicked (errP k) ∧ pe = k ∧ pn = zeroNT) ∨ (∃ x, e = .returned (.agg (ntV x)) ∧ pe = 0 ∧ pn = x) := by
    rw [← HPN.out, ← HPE.out]
    cases hf : formV ws with
    | none => exact .inl ⟨6, by rw [hne, hf], by rw [HEP.out, hf], by rw [HNP.out, hf]⟩
    | some x =>
      cases hr : rangeB x with
      | true => exact .inl ⟨7, by rw [hne, hf]; simp [hr], by rw [HEP.out, hf]; simp [hr], by rw [HNP.out, hf]; simp [hr]⟩
      | false => exact .inr ⟨x, by rw [hne, hf]; simp [hr], by rw [HEP.out, hf]; simp [hr], by rw [HNP.out, hf]; simp [hr]⟩
  clear HPN HPE HEP HNP
  rcases hcase with ⟨k, rfl, rfl, rfl⟩ | ⟨x, rfl, rfl, rfl⟩
  · skip
    have HX3 := Lib.hid hx3
    have HE3 := Lib.hid he3
    clear hx3 he3 hne
    go_wp2_with fail
    refine leaves_cons (f := 73) (args := #[.pointer (some ⟨w.heap.size, 0, none⟩), .pointer (some ⟨w.heap.size + 1, 0, none⟩)]) (by simp) (by simp [go_sem]) ?_
    refine (catch_panic w.heap.size w.heap.size (w.heap.size + 1) (Nat.le_refl _) (by omega) pe 0 0 false 0 0 0 0 0 0 [] w3 (by omega) HX3.out HE3.out).mono ?_
    rintro e u' w4 ⟨rfl, rfl, hx4, he4, hB4⟩
    have d0 := hx4.cell 0
    have d1 := hx4.cell 1
    have d2 := hx4.cell 2
    have d3 := hx4.cell 3
    have d4 := hx4.cell 4
    have d5 := hx4.cell 5
    have d6 := hx4.cell 6
    have d7 := hx4.cell 7
    have de := he4.cell 0
    simp [zeroN, ntc] at d0 d1 d2 d3 d4 d5 d6 d7 de
    simp [Leaves, settle, results, Tryz.results22, go_sem, d0, d1, d2, d3, d4, d5, d6, d7, de]
    exact ⟨rfl, hB3.trans hB4⟩
  · have HX3 := Lib.hid hx3
    have HE3 := Lib.hid he3
    have HB3 := Lib.hid hB3
    unfold zeroN ntc at hx3
    obtain ⟨c0, c1, c2, c3, c4, c5, c6, c7⟩ := cells8 hx3
    have cz := hx3.frozen
    have ce := he3.cell 0
    have cf := he3.frozen 0
    clear hx3 he3 hne
    unfold ntV ntc
    go_wp2_with fail
    have hx3 := HX3.out
    unfold zeroN ntc at hx3
    have hbe : w.heap.size + 1 ≠ w.heap.size := by omega
    have y1 := ((((((((hx3.set 0 (.int .i64 pn.n)).set 1 (.bool pn.c)).set 2 (.int .i64 pn.f)).set 3 (.int .i64 pn.u)).set 4 (.int .i64 pn.xl)).set 5 (.int .i64 pn.xh)).set 6 (.int .i64 pn.yl)).set 7 (.int .i64 pn.yh)).set_other (p := ⟨w.heap.size + 1, 0, none⟩) (fun e => hbe e) (.int .i64 0)
    have y2 := ((((((((HE3.out.set_other (p := ⟨w.heap.size, 0, none⟩) (fun e => hbe e.symm) (.int .i64 pn.n)).set_other (p := ⟨w.heap.size, 1, none⟩) (fun e => hbe e.symm) (.bool pn.c)).set_other (p := ⟨w.heap.size, 2, none⟩) (fun e => hbe e.symm) (.int .i64 pn.f)).set_other (p := ⟨w.heap.size, 3, none⟩) (fun e => hbe e.symm) (.int .i64 pn.u)).set_other (p := ⟨w.heap.size, 4, none⟩) (fun e => hbe e.symm) (.int .i64 pn.xl)).set_other (p := ⟨w.heap.size, 5, none⟩) (fun e => hbe e.symm) (.int .i64 pn.xh)).set_other (p := ⟨w.heap.size, 6, none⟩) (fun e => hbe e.symm) (.int .i64 pn.yl)).set_other (p := ⟨w.heap.size, 7, none⟩) (fun e => hbe e.symm) (.int .i64 pn.yh)).set 0 (.int .i64 0)
    simp only [List.setIfInBounds_toArray, List.set_cons_zero, List.set_cons_succ] at y1 y2
    have hBF := ((((((((HB3.out.setCell (p := ⟨w.heap.size, 0, none⟩) (Nat.le_refl _) (.int .i64 pn.n)).setCell (p := ⟨w.heap.size, 1, none⟩) (Nat.le_refl _) (.bool pn.c)).setCell (p := ⟨w.heap.size, 2, none⟩) (Nat.le_refl _) (.int .i64 pn.f)).setCell (p := ⟨w.heap.size, 3, none⟩) (Nat.le_refl _) (.int .i64 pn.u)).setCell (p := ⟨w.heap.size, 4, none⟩) (Nat.le_refl _) (.int .i64 pn.xl)).setCell (p := ⟨w.heap.size, 5, none⟩) (Nat.le_refl _) (.int .i64 pn.xh)).setCell (p := ⟨w.heap.size, 6, none⟩) (Nat.le_refl _) (.int .i64 pn.yl)).setCell (p := ⟨w.heap.size, 7, none⟩) (Nat.le_refl _) (.int .i64 pn.yh)).setCell (p := ⟨w.heap.size + 1, 0, none⟩) (Nat.le_succ _) (.int .i64 0)
    clear c0 c1 c2 c3 c4 c5 c6 c7 cz ce cf
    refine leaves_cons (f := 73) (args := #[.pointer (some ⟨w.heap.size, 0, none⟩), .pointer (some ⟨w.heap.size + 1, 0, none⟩)]) (by simp) (by simp [go_sem]) ?_
    generalize (((((((((w3.setCell ⟨w.heap.size, 0, none⟩ (.int .i64 pn.n)).setCell ⟨w.heap.size, 1, none⟩ (.bool pn.c)).setCell ⟨w.heap.size, 2, none⟩ (.int .i64 pn.f)).setCell ⟨w.heap.size, 3, none⟩ (.int .i64 pn.u)).setCell ⟨w.heap.size, 4, none⟩ (.int .i64 pn.xl)).setCell ⟨w.heap.size, 5, none⟩ (.int .i64 pn.xh)).setCell ⟨w.heap.size, 6, none⟩ (.int .i64 pn.yl)).setCell ⟨w.heap.size, 7, none⟩ (.int .i64 pn.yh)).setCell ⟨w.heap.size + 1, 0, none⟩ (.int .i64 0)) = wz at *
    refine (catch_none w.heap.size (w.heap.size + 1) wz).mono ?_
    rintro e u' w4 ⟨rfl, rfl, rfl⟩
    have d0 := y1.cell 0
    have d1 := y1.cell 1
    have d2 := y1.cell 2
    have d3 := y1.cell 3
    have d4 := y1.cell 4
    have d5 := y1.cell 5
    have d6 := y1.cell 6
    have d7 := y1.cell 7
    have de := y2.cell 0
    simp at d0 d1 d2 d3 d4 d5 d6 d7 de
    simp [Leaves, settle, results, Tryz.results22, go_sem, d0, d1, d2, d3, d4, d5, d6, d7, de]
    exact ⟨rfl, hBF⟩
end Go.Proofs.YtmglbegbijofkaaGreatDoor
