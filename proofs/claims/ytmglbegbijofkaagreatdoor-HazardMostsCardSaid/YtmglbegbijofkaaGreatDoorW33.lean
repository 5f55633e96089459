import Derived.Test.YtmglbegbijofkaaGreatDoorW32
set_option linter.unusedVariables false
set_option linter.unusedSimpArgs false
namespace Go.Proofs.YtmglbegbijofkaaGreatDoor
open Go.RowKit

def outsideB (cx cy s cols rows xl xh yl yh : Int) : Bool := decide (xl < cx) || decide (cx + cols * s ≤ xh) || decide (yl < cy) || decide (cy + rows * s ≤ yh)
theorem outside_eq (cx cy s cols rows xl xh yl yh : Int) (hs : 1 ≤ s) : outsideB cx cy s cols rows xl xh yl yh = (stepsMo xl xh cx s cols || stepsMo yl yh cy s rows) := by
  have h1 := floor_le s (xh - cx) cols hs
  have h2 := floor_le s (yh - cy) rows hs
  have h3 : (xl - cx) / s < 0 ↔ xl < cx := by rw [Int.ediv_lt_iff_lt_mul (by omega)]; omega
  have h4 : (yl - cy) / s < 0 ↔ yl < cy := by rw [Int.ediv_lt_iff_lt_mul (by omega)]; omega
  unfold outsideB stepsMo
  rw [Bool.eq_iff_iff]
  simp only [Bool.or_eq_true, decide_eq_true_eq, h3, h4, ← h1, ← h2]
  omega
set_option maxRecDepth 100000 in
set_option maxHeartbeats 800000 in
theorem routside_any (cx cy size cols rows : Int) (pv : Value) (xl xh yl yh : Int) (w : World)
    (h1 : -2000000000 ≤ cx) (h2 : cx ≤ 2000000000) (h3 : -2000000000 ≤ cy) (h4 : cy ≤ 2000000000) (h5 : 1 ≤ size) (h6 : size ≤ 100000) (h7 : 1 ≤ cols) (h8 : cols ≤ 20) (h9 : 1 ≤ rows) (h10 : rows ≤ 20) :
    Calls Tryz.prog 105 #[.agg #[.int .i64 cx, .int .i64 cy, .int .i64 size, .int .i64 cols, .int .i64 rows, pv], .agg #[.int .i64 xl, .int .i64 xh, .int .i64 yl, .int .i64 yh]] w fun e w' =>
      e = .returned (.bool (outsideB cx cy (1000 * size) cols rows xl xh yl yh)) ∧ Below w.heap.size w w' := by
  have HSD := Lib.hid (fun W => rside_any cx cy size cols rows pv W h5 h6)
  have s0 : 1000 ≤ 1000 * size := by omega
  have s1 : 1000 * size ≤ 100000000 := by omega
  generalize 1000 * size = s at *
  obtain ⟨u0, u1⟩ := mul_bd cols s 20 100000000 (by omega) h8 (by omega) s1
  obtain ⟨u2, u3⟩ := mul_bd rows s 20 100000000 (by omega) h10 (by omega) s1
  go_enter Tryz.func105, Tryz.ntmps105
  go_wp2_with fail
  obtain ⟨hM, hA, hz, hB⟩ := alloc2 w #[.int .i64 cx, .int .i64 cy, .int .i64 size, .int .i64 cols, .int .i64 rows, pv] #[.int .i64 xl, .int .i64 xh, .int .i64 yl, .int .i64 yh] 42 25
  clear hz
  generalize (w.alloc (.cells #[.int .i64 cx, .int .i64 cy, .int .i64 size, .int .i64 cols, .int .i64 rows, pv] 42)).alloc (.cells #[.int .i64 xl, .int .i64 xh, .int .i64 yl, .int .i64 yh] 25) = W0 at *
  have hK : SM w.heap.size cx cy size cols rows pv xl xh yl yh W0.drew := SM.of hM.drew hA.drew
  have q1 := IntWalk.i64_in (cols * s) ⟨by omega, by omega⟩
  have q2 := IntWalk.i64_in (cx + cols * s) ⟨by omega, by omega⟩
  have q3 := IntWalk.i64_in (rows * s) ⟨by omega, by omega⟩
  have q4 := IntWalk.i64_in (cy + rows * s) ⟨by omega, by omega⟩
  refine wp_region_noPanic ?_
  refine wp_region_held_drew (S := SM w.heap.size cx cy size cols rows pv xl xh yl yh) (by kernel_rfl) hK (fun _ => ?_)
  first | (refine wpAnyH_take (i := 0) (v := ?_) rfl (by kernel_rfl) (by kernel_rfl) (by kernel_rfl) (fun _ _ _ h => h) (Or.inl ⟨by rfl, ?_⟩) hK ?_; rotate_left; (focus (intro w' hSw; obtain ⟨z0, z1, z2, z3, z4, z5, z6, z7, z8, z9⟩ := hSw; go_simp; (try with_reducible rfl); done)); (try simp only [Act.put, List.setIfInBounds_toArray, List.set_cons_zero, List.set_cons_succ, List.getElem_toArray, List.getElem_cons_succ, List.getElem_cons_zero])) | (refine wpAnyH_take (i := 0) (v := undef) rfl (by kernel_rfl) (by kernel_rfl) (by kernel_rfl) (fun _ _ _ h => h) (Or.inr ⟨by rfl, rfl⟩) hK ?_; (try simp only [Act.put, List.setIfInBounds_toArray, List.set_cons_zero, List.set_cons_succ, List.getElem_toArray, List.getElem_cons_succ, List.getElem_cons_zero]))
  first | (refine wpAnyH_take (i := 1) (v := ?_) rfl (by kernel_rfl) (by kernel_rfl) (by kernel_rfl) (fun _ _ _ h => h) (Or.inl ⟨by rfl, ?_⟩) hK ?_; rotate_left; (focus (intro w' hSw; obtain ⟨z0, z1, z2, z3, z4, z5, z6, z7, z8, z9⟩ := hSw; go_simp; (try with_reducible rfl); done)); (try simp only [Act.put, List.setIfInBounds_toArray, List.set_cons_zero, List.set_cons_succ, List.getElem_toArray, List.getElem_cons_succ, List.getElem_cons_zero])) | (refine wpAnyH_take (i := 1) (v := undef) rfl (by kernel_rfl) (by kernel_rfl) (by kernel_rfl) (fun _ _ _ h => h) (Or.inr ⟨by rfl, rfl⟩) hK ?_; (try simp only [Act.put, List.setIfInBounds_toArray, List.set_cons_zero, List.set_cons_succ, List.getElem_toArray, List.getElem_cons_succ, List.getElem_cons_zero]))
  first | (refine wpAnyH_take (i := 2) (v := ?_) rfl (by kernel_rfl) (by kernel_rfl) (by kernel_rfl) (fun _ _ _ h => h) (Or.inl ⟨by rfl, ?_⟩) hK ?_; rotate_left; (focus (intro w' hSw; obtain ⟨z0, z1, z2, z3, z4, z5, z6, z7, z8, z9⟩ := hSw; go_simp; (try with_reducible rfl); done)); (try simp only [Act.put, List.setIfInBounds_toArray, List.set_cons_zero, List.set_cons_succ, List.getElem_toArray, List.getElem_cons_succ, List.getElem_cons_zero])) | (refine wpAnyH_take (i := 2) (v := undef) rfl (by kernel_rfl) (by kernel_rfl) (by kernel_rfl) (fun _ _ _ h => h) (Or.inr ⟨by rfl, rfl⟩) hK ?_; (try simp only [Act.put, List.setIfInBounds_toArray, List.set_cons_zero, List.set_cons_succ, List.getElem_toArray, List.getElem_cons_succ, List.getElem_cons_zero]))
  first | (refine wpAnyH_take (i := 3) (v := ?_) rfl (by kernel_rfl) (by kernel_rfl) (by kernel_rfl) (fun _ _ _ h => h) (Or.inl ⟨by rfl, ?_⟩) hK ?_; rotate_left; (focus (intro w' hSw; obtain ⟨z0, z1, z2, z3, z4, z5, z6, z7, z8, z9⟩ := hSw; go_simp; (try with_reducible rfl); done)); (try simp only [Act.put, List.setIfInBounds_toArray, List.set_cons_zero, List.set_cons_succ, List.getElem_toArray, List.getElem_cons_succ, List.getElem_cons_zero])) | (refine wpAnyH_take (i := 3) (v := undef) rfl (by kernel_rfl) (by kernel_rfl) (by kernel_rfl) (fun _ _ _ h => h) (Or.inr ⟨by rfl, rfl⟩) hK ?_; (try simp only [Act.put, List.setIfInBounds_toArray, List.set_cons_zero, List.set_cons_succ, List.getElem_toArray, List.getElem_cons_succ, List.getElem_cons_zero]))
  first | (refine wpAnyH_take (i := 4) (v := ?_) rfl (by kernel_rfl) (by kernel_rfl) (by kernel_rfl) (fun _ _ _ h => h) (Or.inl ⟨by rfl, ?_⟩) hK ?_; rotate_left; (focus (intro w' hSw; obtain ⟨z0, z1, z2, z3, z4, z5, z6, z7, z8, z9⟩ := hSw; go_simp; (try with_reducible rfl); done)); (try simp only [Act.put, List.setIfInBounds_toArray, List.set_cons_zero, List.set_cons_succ, List.getElem_toArray, List.getElem_cons_succ, List.getElem_cons_zero])) | (refine wpAnyH_take (i := 4) (v := undef) rfl (by kernel_rfl) (by kernel_rfl) (by kernel_rfl) (fun _ _ _ h => h) (Or.inr ⟨by rfl, rfl⟩) hK ?_; (try simp only [Act.put, List.setIfInBounds_toArray, List.set_cons_zero, List.set_cons_succ, List.getElem_toArray, List.getElem_cons_succ, List.getElem_cons_zero]))
  first | (refine wpAnyH_take (i := 5) (v := ?_) rfl (by kernel_rfl) (by kernel_rfl) (by kernel_rfl) (fun _ _ _ h => h) (Or.inl ⟨by rfl, ?_⟩) hK ?_; rotate_left; (focus (intro w' hSw; obtain ⟨z0, z1, z2, z3, z4, z5, z6, z7, z8, z9⟩ := hSw; go_simp; (try with_reducible rfl); done)); (try simp only [Act.put, List.setIfInBounds_toArray, List.set_cons_zero, List.set_cons_succ, List.getElem_toArray, List.getElem_cons_succ, List.getElem_cons_zero])) | (refine wpAnyH_take (i := 5) (v := undef) rfl (by kernel_rfl) (by kernel_rfl) (by kernel_rfl) (fun _ _ _ h => h) (Or.inr ⟨by rfl, rfl⟩) hK ?_; (try simp only [Act.put, List.setIfInBounds_toArray, List.set_cons_zero, List.set_cons_succ, List.getElem_toArray, List.getElem_cons_succ, List.getElem_cons_zero]))
  first | (refine wpAnyH_take (i := 9) (v := ?_) rfl (by kernel_rfl) (by kernel_rfl) (by kernel_rfl) (fun _ _ _ h => h) (Or.inl ⟨by rfl, ?_⟩) hK ?_; rotate_left; (focus (intro w' hSw; obtain ⟨z0, z1, z2, z3, z4, z5, z6, z7, z8, z9⟩ := hSw; go_simp; (try with_reducible rfl); done)); (try simp only [Act.put, List.setIfInBounds_toArray, List.set_cons_zero, List.set_cons_succ, List.getElem_toArray, List.getElem_cons_succ, List.getElem_cons_zero])) | (refine wpAnyH_take (i := 9) (v := undef) rfl (by kernel_rfl) (by kernel_rfl) (by kernel_rfl) (fun _ _ _ h => h) (Or.inr ⟨by rfl, rfl⟩) hK ?_; (try simp only [Act.put, List.setIfInBounds_toArray, List.set_cons_zero, List.set_cons_succ, List.getElem_toArray, List.getElem_cons_succ, List.getElem_cons_zero]))
  first | (refine wpAnyH_take (i := 10) (v := ?_) rfl (by kernel_rfl) (by kernel_rfl) (by kernel_rfl) (fun _ _ _ h => h) (Or.inl ⟨by rfl, ?_⟩) hK ?_; rotate_left; (focus (intro w' hSw; obtain ⟨z0, z1, z2, z3, z4, z5, z6, z7, z8, z9⟩ := hSw; go_simp; (try with_reducible rfl); done)); (try simp only [Act.put, List.setIfInBounds_toArray, List.set_cons_zero, List.set_cons_succ, List.getElem_toArray, List.getElem_cons_succ, List.getElem_cons_zero])) | (refine wpAnyH_take (i := 10) (v := undef) rfl (by kernel_rfl) (by kernel_rfl) (by kernel_rfl) (fun _ _ _ h => h) (Or.inr ⟨by rfl, rfl⟩) hK ?_; (try simp only [Act.put, List.setIfInBounds_toArray, List.set_cons_zero, List.set_cons_succ, List.getElem_toArray, List.getElem_cons_succ, List.getElem_cons_zero]))
  first | (refine wpAnyH_take (i := 11) (v := ?_) rfl (by kernel_rfl) (by kernel_rfl) (by kernel_rfl) (fun _ _ _ h => h) (Or.inl ⟨by rfl, ?_⟩) hK ?_; rotate_left; (focus (intro w' hSw; obtain ⟨z0, z1, z2, z3, z4, z5, z6, z7, z8, z9⟩ := hSw; go_simp; (try with_reducible rfl); done)); (try simp only [Act.put, List.setIfInBounds_toArray, List.set_cons_zero, List.set_cons_succ, List.getElem_toArray, List.getElem_cons_succ, List.getElem_cons_zero])) | (refine wpAnyH_take (i := 11) (v := undef) rfl (by kernel_rfl) (by kernel_rfl) (by kernel_rfl) (fun _ _ _ h => h) (Or.inr ⟨by rfl, rfl⟩) hK ?_; (try simp only [Act.put, List.setIfInBounds_toArray, List.set_cons_zero, List.set_cons_succ, List.getElem_toArray, List.getElem_cons_succ, List.getElem_cons_zero]))
  first | (refine wpAnyH_take (i := 12) (v := ?_) rfl (by kernel_rfl) (by kernel_rfl) (by kernel_rfl) (fun _ _ _ h => h) (Or.inl ⟨by rfl, ?_⟩) hK ?_; rotate_left; (focus (intro w' hSw; obtain ⟨z0, z1, z2, z3, z4, z5, z6, z7, z8, z9⟩ := hSw; go_simp; (try with_reducible rfl); done)); (try simp only [Act.put, List.setIfInBounds_toArray, List.set_cons_zero, List.set_cons_succ, List.getElem_toArray, List.getElem_cons_succ, List.getElem_cons_zero])) | (refine wpAnyH_take (i := 12) (v := undef) rfl (by kernel_rfl) (by kernel_rfl) (by kernel_rfl) (fun _ _ _ h => h) (Or.inr ⟨by rfl, rfl⟩) hK ?_; (try simp only [Act.put, List.setIfInBounds_toArray, List.set_cons_zero, List.set_cons_succ, List.getElem_toArray, List.getElem_cons_succ, List.getElem_cons_zero]))
  first | (refine wpAnyH_take (i := 13) (v := ?_) rfl (by kernel_rfl) (by kernel_rfl) (by kernel_rfl) (fun _ _ _ h => h) (Or.inl ⟨by rfl, ?_⟩) hK ?_; rotate_left; (focus (intro w' hSw; obtain ⟨z0, z1, z2, z3, z4, z5, z6, z7, z8, z9⟩ := hSw; go_simp; (try with_reducible rfl); done)); (try simp only [Act.put, List.setIfInBounds_toArray, List.set_cons_zero, List.set_cons_succ, List.getElem_toArray, List.getElem_cons_succ, List.getElem_cons_zero])) | (refine wpAnyH_take (i := 13) (v := undef) rfl (by kernel_rfl) (by kernel_rfl) (by kernel_rfl) (fun _ _ _ h => h) (Or.inr ⟨by rfl, rfl⟩) hK ?_; (try simp only [Act.put, List.setIfInBounds_toArray, List.set_cons_zero, List.set_cons_succ, List.getElem_toArray, List.getElem_cons_succ, List.getElem_cons_zero]))
  first | (refine wpAnyH_take (i := 14) (v := ?_) rfl (by kernel_rfl) (by kernel_rfl) (by kernel_rfl) (fun _ _ _ h => h) (Or.inl ⟨by rfl, ?_⟩) hK ?_; rotate_left; (focus (intro w' hSw; obtain ⟨z0, z1, z2, z3, z4, z5, z6, z7, z8, z9⟩ := hSw; go_simp; (try with_reducible rfl); done)); (try simp only [Act.put, List.setIfInBounds_toArray, List.set_cons_zero, List.set_cons_succ, List.getElem_toArray, List.getElem_cons_succ, List.getElem_cons_zero])) | (refine wpAnyH_take (i := 14) (v := undef) rfl (by kernel_rfl) (by kernel_rfl) (by kernel_rfl) (fun _ _ _ h => h) (Or.inr ⟨by rfl, rfl⟩) hK ?_; (try simp only [Act.put, List.setIfInBounds_toArray, List.set_cons_zero, List.set_cons_succ, List.getElem_toArray, List.getElem_cons_succ, List.getElem_cons_zero]))
  refine wpAnyH_ready (rs := [6]) (by kernel_rfl) (by simp) (AllReadyH.cons rfl (fun K' hK' => ?_) AllReadyH.nil)
  go_simp
  refine (HSD.out _).mono ?_
  rintro e w1 ⟨rfl, hbA⟩
  (try dsimp only)
  (try (with_reducible have hbA := below_drew' hbA))
  have hM := hM.below hbA
  have hA := hA.below hbA
  have hB := below_trans hB hbA
  have hK : SM w.heap.size cx cy size cols rows pv xl xh yl yh w1 := SM.of hM hA
  refine hK'.out _ _ hK (fun _ => ?_)
  clear hK' K' hbA
  (try simp only [Act.put, List.setIfInBounds_toArray, List.set_cons_zero, List.set_cons_succ, List.getElem_toArray, List.getElem_cons_succ, List.getElem_cons_zero])
  first | (refine wpAnyH_take (i := 7) (v := ?_) rfl (by kernel_rfl) (by kernel_rfl) (by kernel_rfl) (fun _ _ _ h => h) (Or.inl ⟨by rfl, ?_⟩) hK ?_; rotate_left; (focus (intro w' hSw; obtain ⟨z0, z1, z2, z3, z4, z5, z6, z7, z8, z9⟩ := hSw; go_simp; (try with_reducible rfl); done)); (try simp only [Act.put, List.setIfInBounds_toArray, List.set_cons_zero, List.set_cons_succ, List.getElem_toArray, List.getElem_cons_succ, List.getElem_cons_zero])) | (refine wpAnyH_take (i := 7) (v := undef) rfl (by kernel_rfl) (by kernel_rfl) (by kernel_rfl) (fun _ _ _ h => h) (Or.inr ⟨by rfl, rfl⟩) hK ?_; (try simp only [Act.put, List.setIfInBounds_toArray, List.set_cons_zero, List.set_cons_succ, List.getElem_toArray, List.getElem_cons_succ, List.getElem_cons_zero]))
  first | (refine wpAnyH_take (i := 8) (v := ?_) rfl (by kernel_rfl) (by kernel_rfl) (by kernel_rfl) (fun _ _ _ h => h) (Or.inl ⟨by rfl, ?_⟩) hK ?_; rotate_left; (focus (intro w' hSw; obtain ⟨z0, z1, z2, z3, z4, z5, z6, z7, z8, z9⟩ := hSw; go_simp; (try with_reducible rfl); done)); (try simp only [Act.put, List.setIfInBounds_toArray, List.set_cons_zero, List.set_cons_succ, List.getElem_toArray, List.getElem_cons_succ, List.getElem_cons_zero])) | (refine wpAnyH_take (i := 8) (v := undef) rfl (by kernel_rfl) (by kernel_rfl) (by kernel_rfl) (fun _ _ _ h => h) (Or.inr ⟨by rfl, rfl⟩) hK ?_; (try simp only [Act.put, List.setIfInBounds_toArray, List.set_cons_zero, List.set_cons_succ, List.getElem_toArray, List.getElem_cons_succ, List.getElem_cons_zero]))
  refine wpAnyH_ready (rs := [15]) (by kernel_rfl) (by simp) (AllReadyH.cons rfl (fun K' hK' => ?_) AllReadyH.nil)
  go_simp
  refine (HSD.out _).mono ?_
  rintro e w2 ⟨rfl, hbA⟩
  (try dsimp only)
  (try (with_reducible have hbA := below_drew' hbA))
  have hM := hM.below hbA
  have hA := hA.below hbA
  have hB := below_trans hB hbA
  have hK : SM w.heap.size cx cy size cols rows pv xl xh yl yh w2 := SM.of hM hA
  refine hK'.out _ _ hK (fun _ => ?_)
  clear hK' K' hbA
  (try simp only [Act.put, List.setIfInBounds_toArray, List.set_cons_zero, List.set_cons_succ, List.getElem_toArray, List.getElem_cons_succ, List.getElem_cons_zero])
  first | (refine wpAnyH_take (i := 16) (v := ?_) rfl (by kernel_rfl) (by kernel_rfl) (by kernel_rfl) (fun _ _ _ h => h) (Or.inl ⟨by rfl, ?_⟩) hK ?_; rotate_left; (focus (intro w' hSw; obtain ⟨z0, z1, z2, z3, z4, z5, z6, z7, z8, z9⟩ := hSw; go_simp; (try with_reducible rfl); done)); (try simp only [Act.put, List.setIfInBounds_toArray, List.set_cons_zero, List.set_cons_succ, List.getElem_toArray, List.getElem_cons_succ, List.getElem_cons_zero])) | (refine wpAnyH_take (i := 16) (v := undef) rfl (by kernel_rfl) (by kernel_rfl) (by kernel_rfl) (fun _ _ _ h => h) (Or.inr ⟨by rfl, rfl⟩) hK ?_; (try simp only [Act.put, List.setIfInBounds_toArray, List.set_cons_zero, List.set_cons_succ, List.getElem_toArray, List.getElem_cons_succ, List.getElem_cons_zero]))
  first | (refine wpAnyH_take (i := 17) (v := ?_) rfl (by kernel_rfl) (by kernel_rfl) (by kernel_rfl) (fun _ _ _ h => h) (Or.inl ⟨by rfl, ?_⟩) hK ?_; rotate_left; (focus (intro w' hSw; obtain ⟨z0, z1, z2, z3, z4, z5, z6, z7, z8, z9⟩ := hSw; go_simp; (try with_reducible rfl); done)); (try simp only [Act.put, List.setIfInBounds_toArray, List.set_cons_zero, List.set_cons_succ, List.getElem_toArray, List.getElem_cons_succ, List.getElem_cons_zero])) | (refine wpAnyH_take (i := 17) (v := undef) rfl (by kernel_rfl) (by kernel_rfl) (by kernel_rfl) (fun _ _ _ h => h) (Or.inr ⟨by rfl, rfl⟩) hK ?_; (try simp only [Act.put, List.setIfInBounds_toArray, List.set_cons_zero, List.set_cons_succ, List.getElem_toArray, List.getElem_cons_succ, List.getElem_cons_zero]))
  first | (refine wpAnyH_take (i := 18) (v := ?_) rfl (by kernel_rfl) (by kernel_rfl) (by kernel_rfl) (fun _ _ _ h => h) (Or.inl ⟨by rfl, ?_⟩) hK ?_; rotate_left; (focus (intro w' hSw; obtain ⟨z0, z1, z2, z3, z4, z5, z6, z7, z8, z9⟩ := hSw; go_simp; (try with_reducible rfl); done)); (try simp only [Act.put, List.setIfInBounds_toArray, List.set_cons_zero, List.set_cons_succ, List.getElem_toArray, List.getElem_cons_succ, List.getElem_cons_zero])) | (refine wpAnyH_take (i := 18) (v := undef) rfl (by kernel_rfl) (by kernel_rfl) (by kernel_rfl) (fun _ _ _ h => h) (Or.inr ⟨by rfl, rfl⟩) hK ?_; (try simp only [Act.put, List.setIfInBounds_toArray, List.set_cons_zero, List.set_cons_succ, List.getElem_toArray, List.getElem_cons_succ, List.getElem_cons_zero]))
  first | (refine wpAnyH_take (i := 19) (v := ?_) rfl (by kernel_rfl) (by kernel_rfl) (by kernel_rfl) (fun _ _ _ h => h) (Or.inl ⟨by rfl, ?_⟩) hK ?_; rotate_left; (focus (intro w' hSw; obtain ⟨z0, z1, z2, z3, z4, z5, z6, z7, z8, z9⟩ := hSw; go_simp; (try with_reducible rfl); done)); (try simp only [Act.put, List.setIfInBounds_toArray, List.set_cons_zero, List.set_cons_succ, List.getElem_toArray, List.getElem_cons_succ, List.getElem_cons_zero])) | (refine wpAnyH_take (i := 19) (v := undef) rfl (by kernel_rfl) (by kernel_rfl) (by kernel_rfl) (fun _ _ _ h => h) (Or.inr ⟨by rfl, rfl⟩) hK ?_; (try simp only [Act.put, List.setIfInBounds_toArray, List.set_cons_zero, List.set_cons_succ, List.getElem_toArray, List.getElem_cons_succ, List.getElem_cons_zero]))
  refine wpAnyH_done (by kernel_rfl) (NoPanic.normal ?_) _
  (try simp only [Act.put, List.setIfInBounds_toArray, List.set_cons_zero, List.set_cons_succ, List.getElem_toArray, List.getElem_cons_succ, List.getElem_cons_zero])
  clear q1 q2 q3 q4 hK
  have HF : Hid (outsideB cx cy s cols rows xl xh yl yh = (decide (xl < cx) || decide (cx + cols * s ≤ xh) || decide (yl < cy) || decide (cy + rows * s ≤ yh))) := show _ = _ from rfl
  generalize cx + cols * s = X at *
  generalize cy + rows * s = Y at *
  obtain ⟨m0, m1, m2, m3, m4, m5⟩ := cells6 hM
  obtain ⟨a0, a1, a2, a3⟩ := cells4 hA
  go_wp2_with fail
  all_goals (go_ret; exact ⟨ret_bool (by first | (rw [HF.out]; done) | (rw [HF.out]; simp [*])), hB⟩)

/-- the cells that the reference finds among the first k -/
def flL (cx cy s cols xl xh yl yh : Int) (k : Nat) : List Int := ((List.range k).filter fun (i : Nat) => meetsB cx cy s xl xh yl yh ((i : Int) / cols) ((i : Int) % cols)).map fun (i : Nat) => (i : Int)
theorem flL_succ (cx cy s cols xl xh yl yh : Int) (k : Nat) : flL cx cy s cols xl xh yl yh (k + 1) = flL cx cy s cols xl xh yl yh k ++ if meetsB cx cy s xl xh yl yh ((k : Int) / cols) ((k : Int) % cols) then [(k : Int)] else [] := by
  unfold flL
  rw [List.range_succ, List.filter_append, List.map_append]
  by_cases h : meetsB cx cy s xl xh yl yh ((k : Int) / cols) ((k : Int) % cols) = true
  · simp [h]
  · simp [h]
theorem flL_len (cx cy s cols xl xh yl yh : Int) (k : Nat) : (flL cx cy s cols xl xh yl yh k).length ≤ k := by
  unfold flL
  rw [List.length_map]
  exact Nat.le_trans (List.length_filter_le _ _) (by simp)
theorem flL_eq (cx cy s xl xh yl yh : Int) (cols rows : Nat) (hs : 1 ≤ s) (hc : 1 ≤ cols) : flL cx cy s cols xl xh yl yh (rows * cols) = rowsL (stepsLo xl cx s) (stepsLo yl cy s) cols (stepsHi xh cx s cols - stepsLo xl cx s + 1).toNat (stepsHi yh cy s rows - stepsLo yl cy s + 1).toNat := by
  rw [← cells_ref cx cy s xl xh yl yh cols rows hs hc]
  unfold flL
  simp
/-- what ref.cells leaves -/
def RCellsPost (w : World) (l : List Int) (e : Ending) (w' : World) : Prop :=
  ∃ v, e = .returned v ∧ w'.ownsRow w.heap.size 3 1 v l.length (l.map (Value.int .i64)) ∧ Below w.heap.size w w'
set_option maxRecDepth 100000 in
set_option maxHeartbeats 800000 in
theorem rcells_any (cx cy size cols rows : Int) (pv : Value) (zs : List Int) (xl xh yl yh : Int) (w : World) (hv : IntsAt w pv zs)
    (h1 : -2000000000 ≤ cx) (h2 : cx ≤ 2000000000) (h3 : -2000000000 ≤ cy) (h4 : cy ≤ 2000000000) (h5 : 1 ≤ size) (h6 : size ≤ 100000) (h7 : 1 ≤ cols) (h8 : cols ≤ 20) (hz : zs.length ≤ 400) :
    Calls Tryz.prog 104 #[.agg #[.int .i64 cx, .int .i64 cy, .int .i64 size, .int .i64 cols, .int .i64 rows, pv], .agg #[.int .i64 xl, .int .i64 xh, .int .i64 yl, .int .i64 yh]] w
      (RCellsPost w (flL cx cy (1000 * size) cols xl xh yl yh zs.length)) := by
  obtain ⟨a, c, rfl, hx⟩ := hv
  clear hx
  obtain ⟨i0, hi, hz0, hz1, hz2⟩ := info_parts Tryz.info3
  have HME := Lib.hid (fun (k : Nat) (hk : k < 400) W => rmeets_any cx cy size cols rows (.slice a zs.length c) xl xh yl yh k W h1 h2 h3 h4 h5 h6 h7 h8 hk)
  have HFS := Lib.hid (fun k => flL_succ cx cy (1000 * size) cols xl xh yl yh k)
  have HFL := Lib.hid (fun k => flL_len cx cy (1000 * size) cols xl xh yl yh k)
  have HF0 : Hid (flL cx cy (1000 * size) cols xl xh yl yh 0 = []) := show _ = _ from rfl
  go_enter Tryz.func104, Tryz.ntmps104
  go_wp2_with fail
  obtain ⟨hM, hA, hzz, hB⟩ := alloc2 w #[.int .i64 cx, .int .i64 cy, .int .i64 size, .int .i64 cols, .int .i64 rows, .slice a zs.length c] #[.int .i64 xl, .int .i64 xh, .int .i64 yl, .int .i64 yh] 42 25
  have hsz : w.heap.size ≤ ((w.alloc (.cells #[.int .i64 cx, .int .i64 cy, .int .i64 size, .int .i64 cols, .int .i64 rows, .slice a zs.length c] 42)).alloc (.cells #[.int .i64 xl, .int .i64 xh, .int .i64 yl, .int .i64 yh] 25)).heap.size := by omega
  clear hzz
  generalize (w.alloc (.cells #[.int .i64 cx, .int .i64 cy, .int .i64 size, .int .i64 cols, .int .i64 rows, .slice a zs.length c] 42)).alloc (.cells #[.int .i64 xl, .int .i64 xh, .int .i64 yl, .int .i64 yh] 25) = W0 at *
  generalize hfl : flL cx cy (1000 * size) cols xl xh yl yh = FL at *
  generalize 1000 * size = s at *
  have HM := Lib.hid hM
  have HA := Lib.hid hA
  clear hM hA hfl
  go_loopw [5, 6] (fun v i wr => ∃ k : Nat, k ≤ zs.length ∧ i = .int .i64 k ∧ wr.ownsRow W0.heap.size 3 1 v (FL k).length ((FL k).map (Value.int .i64)) ∧ Below W0.heap.size W0 wr) (fun _ i _ => zs.length - (intOf i).toNat)
  case atStart => exact ⟨0, Nat.zero_le _, rfl, by rw [HF0.out]; simpa using World.ownsRow_nil _ _ _ _, Below.refl _ _⟩
  case round =>
    obtain ⟨k, hk, rfl, hown, hBw⟩ := hrel
    obtain ⟨m0, m1, m2, m3, m4, m5⟩ := cells6 (HM.out.below hBw)
    obtain ⟨a0, a1, a2, a3⟩ := cells4 (HA.out.below hBw)
    by_cases hlt : k < zs.length
    · have HC := Lib.hid (fun W => HME.out k (by omega) W)
      have HS := Lib.hid (HFS.out k)
      have hlen := HFL.out k
      generalize meetsB cx cy s xl xh yl yh ((k : Int) / cols) ((k : Int) % cols) = mb at *
      cases mb with
      | true =>
        go_wp2_with fail
        refine (HC.out _).mono ?_
        rintro e w1 ⟨rfl, hb1⟩
        have hown := ownsRow_below hown hb1
        have hB1 := below_trans hBw hb1
        clear hb1 m0 m1 m2 m3 m4 m5 a0 a1 a2 a3
        go_wp2_with (at_builtin; refine wpList_append_own _ rfl _ _ 40 rfl W0.heap.size 3 i0 (.int .i64 0) 1 8 Tryz.underlying40 hi hz0 hz1 hz2 rfl (by decide) _ _ _ rfl (hown.alloc _) ⟨w1.heap.size, 0, none⟩ 1 1 [.int .i64 k] rfl rfl ?c1 ?c2 ?c3 ?c4 ?c5 ?_)
        case c1 => exact cell_one_new _ _ _
        case c2 => simp [Value.oneCell']
        case c3 => unfold maxLen; omega
        case c4 => omega
        case c5 => have := hB1.size; simp; omega
        intro v' w3 hown' hgrow _
        have hB3 : Below W0.heap.size W0 w3 := (hB1.alloc hB1.size _).grown hgrow (by have := hB1.size; simp; omega) (fun g hg => (World.ownsRow.lt hown g hg).1)
        clear hgrow hown hB1
        go_wp2_with fail
        go_roundw
        case rel => exact ⟨k + 1, by omega, by go_num, by rw [HS.out]; simpa using hown', hB3⟩
        case measure => simp [intOf]; omega
      | false =>
        go_wp2_with fail
        refine (HC.out _).mono ?_
        rintro e w1 ⟨rfl, hb1⟩
        have hown := ownsRow_below hown hb1
        have hB1 := below_trans hBw hb1
        clear hb1 m0 m1 m2 m3 m4 m5 a0 a1 a2 a3
        go_wp2_with fail
        go_roundw
        case rel => exact ⟨k + 1, by omega, by go_num, by rw [HS.out]; simpa using hown, hB1⟩
        case measure => simp [intOf]; omega
    · obtain rfl : k = zs.length := by omega
      go_wp2_with fail
      go_ret
      exact ⟨_, rfl, ownsRow_base hown hsz, below_trans hB hBw⟩
end Go.Proofs.YtmglbegbijofkaaGreatDoor
