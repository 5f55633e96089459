/- Walks: the officer's Text. -/
import Derived.Test.YtkjajpfgdjfcoaaGreatDoorPE
import Derived.Test.YtkjajpfgdjfcoaaGreatDoorPC
import Derived.Test.YtkjajpfgdjfcoaaGreatDoorPS
import Derived.Test.YtkjajpfgdjfcoaaGreatDoorPA
import Derived.Test.YtkjajpfgdjfcoaaGreatDoorPD
set_option linter.unusedVariables false
set_option linter.unusedSimpArgs false
namespace Go.Proofs.YtkjajpfgdjfcoaaGreatDoor
open Go.RowKit
/-- a line in its box -/
structure XB (b : Nat) (x0 x1 x2 x3 : Value) (w : World) : Prop where
  c0 : w.cell? ⟨b, 0, none⟩ = some x0
  c1 : w.cell? ⟨b, 1, none⟩ = some x1
  c2 : w.cell? ⟨b, 2, none⟩ = some x2
  c3 : w.cell? ⟨b, 3, none⟩ = some x3
theorem XB.below {b : Nat} {x0 x1 x2 x3 : Value} {w w' : World} (h : XB b x0 x1 x2 x3 w) (hb : Below w.heap.size w w') : XB b x0 x1 x2 x3 w' :=
  ⟨(hb.cell (World.block_lt_of_cell? w _ h.c0)).trans h.c0, (hb.cell (World.block_lt_of_cell? w _ h.c1)).trans h.c1, (hb.cell (World.block_lt_of_cell? w _ h.c2)).trans h.c2, (hb.cell (World.block_lt_of_cell? w _ h.c3)).trans h.c3⟩
theorem XB.grown {b : Nat} {x0 x1 x2 x3 v : Value} {w w' : World} (h : XB b x0 x1 x2 x3 w) (hg : w.grownBy w' v.ownBlock) (hn : ∀ g, v.ownBlock = some g → g ≠ b) : XB b x0 x1 x2 x3 w' :=
  ⟨hg.cell h.c0 (fun e => hn b e.symm rfl), hg.cell h.c1 (fun e => hn b e.symm rfl), hg.cell h.c2 (fun e => hn b e.symm rfl), hg.cell h.c3 (fun e => hn b e.symm rfl)⟩
/-- beside the table of verbs -/
structure XV (b t : Nat) (x0 x1 x2 x3 : Value) (w : World) : Prop where
  s : XB b x0 x1 x2 x3 w
  v : VerbsAt w t
theorem XV.below {b t : Nat} {x0 x1 x2 x3 : Value} {w w' : World} (h : XV b t x0 x1 x2 x3 w) (hb : Below w.heap.size w w') : XV b t x0 x1 x2 x3 w' := ⟨h.s.below hb, h.v.below hb⟩
section
variable {xb : Nat} {at_ v : Int} {nm : ByteArray} {nv : Value}
set_option maxRecDepth 100000 in
set_option maxHeartbeats 4000000 in
theorem text_reg1 {c : Code} (hc : c = rgOf Tryz.f15 1) {wc : World} {Q : Exit → Act → World → Prop}
  (hS : XB xb (.int .i64 at_) (.int .i64 v) (.string nm) nv wc)
  {v0 v2 v3 v4 v5 v6 v7 v8 v9 v10 v11 v12 v13 v14 v15 v16 v17 v18 v19 v20 v21 v22 v23 v24 v25 v26 v27 v28 v29 v30 v31 v32 v33 v34 v35 v36 v37 v38 v39 v40 v41 v42 v43 v44 v45 v46 v47 v48 v49 v50 v51 v52 v53 v54 v55 v56 v57 v58 v59 v60 v61 v62 v63 v64 v65 v66 v67 v68 v69 v70 v71 v72 v73 v74 v75 v76 v77 v78 v79 v80 v81 v82 v83 v84 v85 v86 v87 v88 : Value}
  (hK : ∀ (u10 u11 u12 u13 u14 : Value) (w' : World), Below wc.heap.size wc w' →
    Q Exit.normal { tmps := #[v0, .pointer (some ⟨xb, 0, none⟩), v2, v3, v4, v5, v6, v7, v8, v9, u10, u11, u12, u13, u14, .bool (outI v 1 17), v16, v17, v18, v19, v20, v21, v22, v23, v24, v25, v26, v27, v28, v29, v30, v31, v32, v33, v34, v35, v36, v37, v38, v39, v40, v41, v42, v43, v44, v45, v46, v47, v48, v49, v50, v51, v52, v53, v54, v55, v56, v57, v58, v59, v60, v61, v62, v63, v64, v65, v66, v67, v68, v69, v70, v71, v72, v73, v74, v75, v76, v77, v78, v79, v80, v81, v82, v83, v84, v85, v86, v87, v88], defers := [] } w') :
  Code.wp Tryz.prog c Q { tmps := #[v0, .pointer (some ⟨xb, 0, none⟩), v2, v3, v4, v5, v6, v7, v8, v9, v10, v11, v12, v13, v14, v15, v16, v17, v18, v19, v20, v21, v22, v23, v24, v25, v26, v27, v28, v29, v30, v31, v32, v33, v34, v35, v36, v37, v38, v39, v40, v41, v42, v43, v44, v45, v46, v47, v48, v49, v50, v51, v52, v53, v54, v55, v56, v57, v58, v59, v60, v61, v62, v63, v64, v65, v66, v67, v68, v69, v70, v71, v72, v73, v74, v75, v76, v77, v78, v79, v80, v81, v82, v83, v84, v85, v86, v87, v88], defers := [] } wc := by
  subst hc
  conv => arg 2; whnf
  have HKK := Lib.hid hK
  clear hK
  have hB : Below wc.heap.size wc wc.drew := (Below.refl _ _).drew
  have hH : XB xb (.int .i64 at_) (.int .i64 v) (.string nm) nv wc.drew := hS.below hB
  clear hS
  refine wp_region_noPanic ?_
  refine wp_region_held_drew (S := XB xb (.int .i64 at_) (.int .i64 v) (.string nm) nv) (by kernel_rfl) hH (fun _ => ?_)
  first | (refine wpAnyH_take (i := 0) (v := ?_) rfl (by kernel_rfl) (by kernel_rfl) (by kernel_rfl) (fun _ _ _ h => h) (Or.inl ⟨by rfl, ?_⟩) hH ?_; rotate_left; (focus (intro w' hSw; obtain ⟨z0, z1, z2, z3⟩ := hSw; (try obtain ⟨s0, s1, s2⟩ := zv.at_ hk); (try unfold encB at s0); go_simp; (try with_reducible rfl); done)); (try simp only [Act.put, List.setIfInBounds_toArray, List.set_cons_zero, List.set_cons_succ, List.getElem_toArray, List.getElem_cons_succ, List.getElem_cons_zero])) | (refine wpAnyH_take (i := 0) (v := undef) rfl (by kernel_rfl) (by kernel_rfl) (by kernel_rfl) (fun _ _ _ h => h) (Or.inr ⟨by rfl, rfl⟩) hH ?_; (try simp only [Act.put, List.setIfInBounds_toArray, List.set_cons_zero, List.set_cons_succ, List.getElem_toArray, List.getElem_cons_succ, List.getElem_cons_zero]))
  first | (refine wpAnyH_take (i := 1) (v := ?_) rfl (by kernel_rfl) (by kernel_rfl) (by kernel_rfl) (fun _ _ _ h => h) (Or.inl ⟨by rfl, ?_⟩) hH ?_; rotate_left; (focus (intro w' hSw; obtain ⟨z0, z1, z2, z3⟩ := hSw; (try obtain ⟨s0, s1, s2⟩ := zv.at_ hk); (try unfold encB at s0); go_simp; (try with_reducible rfl); done)); (try simp only [Act.put, List.setIfInBounds_toArray, List.set_cons_zero, List.set_cons_succ, List.getElem_toArray, List.getElem_cons_succ, List.getElem_cons_zero])) | (refine wpAnyH_take (i := 1) (v := undef) rfl (by kernel_rfl) (by kernel_rfl) (by kernel_rfl) (fun _ _ _ h => h) (Or.inr ⟨by rfl, rfl⟩) hH ?_; (try simp only [Act.put, List.setIfInBounds_toArray, List.set_cons_zero, List.set_cons_succ, List.getElem_toArray, List.getElem_cons_succ, List.getElem_cons_zero]))
  refine wpAnyH_ready (rs := [2]) (by kernel_rfl) (by simp) (AllReadyH.cons rfl (fun K' hK' => ?_) AllReadyH.nil)
  go_simp
  refine (verbs_any _).mono ?_
  rintro e w1 ⟨rfl, hw1⟩
  (try dsimp only)
  have hb1 : Below wc.drew.heap.size wc.drew w1 := by rw [hw1]; exact balloc (Below.refl _ _) _
  have hB1 := below_trans hB hb1
  have hH1 := hH.below hb1
  clear hw1 hb1
  refine hK'.out _ _ hH1 (fun _ => ?_)
  clear hK' K'
  (try simp only [Act.put, List.setIfInBounds_toArray, List.set_cons_zero, List.set_cons_succ, List.getElem_toArray, List.getElem_cons_succ, List.getElem_cons_zero])
  first | (refine wpAnyH_take (i := 3) (v := ?_) rfl (by kernel_rfl) (by kernel_rfl) (by kernel_rfl) (fun _ _ _ h => h) (Or.inl ⟨by rfl, ?_⟩) hH1 ?_; rotate_left; (focus (intro w' hSw; obtain ⟨z0, z1, z2, z3⟩ := hSw; (try obtain ⟨s0, s1, s2⟩ := zv.at_ hk); (try unfold encB at s0); go_simp; (try with_reducible rfl); done)); (try simp only [Act.put, List.setIfInBounds_toArray, List.set_cons_zero, List.set_cons_succ, List.getElem_toArray, List.getElem_cons_succ, List.getElem_cons_zero])) | (refine wpAnyH_take (i := 3) (v := undef) rfl (by kernel_rfl) (by kernel_rfl) (by kernel_rfl) (fun _ _ _ h => h) (Or.inr ⟨by rfl, rfl⟩) hH1 ?_; (try simp only [Act.put, List.setIfInBounds_toArray, List.set_cons_zero, List.set_cons_succ, List.getElem_toArray, List.getElem_cons_succ, List.getElem_cons_zero]))
  first | (refine wpAnyH_take (i := 4) (v := ?_) rfl (by kernel_rfl) (by kernel_rfl) (by kernel_rfl) (fun _ _ _ h => h) (Or.inl ⟨by rfl, ?_⟩) hH1 ?_; rotate_left; (focus (intro w' hSw; obtain ⟨z0, z1, z2, z3⟩ := hSw; (try obtain ⟨s0, s1, s2⟩ := zv.at_ hk); (try unfold encB at s0); go_simp; (try with_reducible rfl); done)); (try simp only [Act.put, List.setIfInBounds_toArray, List.set_cons_zero, List.set_cons_succ, List.getElem_toArray, List.getElem_cons_succ, List.getElem_cons_zero])) | (refine wpAnyH_take (i := 4) (v := undef) rfl (by kernel_rfl) (by kernel_rfl) (by kernel_rfl) (fun _ _ _ h => h) (Or.inr ⟨by rfl, rfl⟩) hH1 ?_; (try simp only [Act.put, List.setIfInBounds_toArray, List.set_cons_zero, List.set_cons_succ, List.getElem_toArray, List.getElem_cons_succ, List.getElem_cons_zero]))
  refine wpAnyH_ready (rs := [5]) (by kernel_rfl) (by simp) (AllReadyH.cons rfl (fun K' hK' => ?_) AllReadyH.nil)
  go_simp
  refine (out_any _ _ _ _).mono ?_
  rintro e w' ⟨rfl, rfl⟩
  (try dsimp only)
  refine hK'.out _ _ hH1 (fun _ => ?_)
  clear hK' K'
  (try simp only [Act.put, List.setIfInBounds_toArray, List.set_cons_zero, List.set_cons_succ, List.getElem_toArray, List.getElem_cons_succ, List.getElem_cons_zero])
  refine wpAnyH_done (by kernel_rfl) (NoPanic.normal ?_) _
  (try simp only [Act.put, List.setIfInBounds_toArray, List.set_cons_zero, List.set_cons_succ, List.getElem_toArray, List.getElem_cons_succ, List.getElem_cons_zero])
  exact HKK.out _ _ _ _ _ _ hB1
set_option maxRecDepth 100000 in
set_option maxHeartbeats 4000000 in
theorem text_reg3 {c : Code} (hc : c = rgOf Tryz.f15 3) {w wc : World} {k : Nat} {Q : Exit → Act → World → Prop}
  (hS : XB xb (.int .i64 at_) (.int .i64 (k : Nat)) (.string nm) nv wc) (hk : k < 18) (ht : Tab10 w) (hw : Below w.heap.size w wc) (h0 : -9223372036854775808 ≤ at_) (h1 : at_ ≤ 9223372036854775807)
  {v0 v2 v3 v5 v6 v7 v8 v9 v10 v11 v12 v13 v14 v15 v16 v17 v18 v19 v20 v21 v22 v23 v24 v25 v26 v27 v28 v29 v30 v31 v32 v33 v34 v35 v36 v37 v38 v39 v40 v41 v42 v43 v44 v45 v46 v47 v48 v49 v50 v51 v52 v53 v54 v55 v56 v57 v58 v59 v60 v61 v62 v63 v64 v65 v66 v67 v68 v69 v70 v71 v72 v73 v74 v75 v76 v77 v78 v79 v80 v81 v82 v83 v84 v85 v86 v87 v88 : Value}
  (v4 : Value)
  (hK : ∀ (u16 u17 u18 u19 u20 u21 u22 u23 u24 u25 : Value) (nb : Nat) (w' : World), Below wc.heap.size wc w' → w'.ownsRow wc.heap.size 9 1 (.slice (some ⟨nb, 0, none⟩) 3 3) 3 [.string ⟨#[97, 116]⟩, .string ⟨(Lib.itoa at_).toArray⟩, .string ⟨(wordN k).toArray⟩] →
    Q Exit.normal { tmps := #[v0, .pointer (some ⟨xb, 0, none⟩), v2, v3, .slice (some ⟨nb, 0, none⟩) 3 3, v5, v6, v7, v8, v9, v10, v11, v12, v13, v14, v15, u16, u17, u18, u19, u20, u21, u22, u23, u24, u25, v26, v27, v28, v29, v30, v31, v32, v33, v34, v35, v36, v37, v38, v39, v40, v41, v42, v43, v44, v45, v46, v47, v48, v49, v50, v51, v52, v53, v54, v55, v56, v57, v58, v59, v60, v61, v62, v63, v64, v65, v66, v67, v68, v69, v70, v71, v72, v73, v74, v75, v76, v77, v78, v79, v80, v81, v82, v83, v84, v85, v86, v87, v88], defers := [] } w') :
  Code.wp Tryz.prog c Q { tmps := #[v0, .pointer (some ⟨xb, 0, none⟩), v2, v3, v4, v5, v6, v7, v8, v9, v10, v11, v12, v13, v14, v15, v16, v17, v18, v19, v20, v21, v22, v23, v24, v25, v26, v27, v28, v29, v30, v31, v32, v33, v34, v35, v36, v37, v38, v39, v40, v41, v42, v43, v44, v45, v46, v47, v48, v49, v50, v51, v52, v53, v54, v55, v56, v57, v58, v59, v60, v61, v62, v63, v64, v65, v66, v67, v68, v69, v70, v71, v72, v73, v74, v75, v76, v77, v78, v79, v80, v81, v82, v83, v84, v85, v86, v87, v88], defers := [] } wc := by
  subst hc
  conv => arg 2; whnf
  have HKK := Lib.hid hK
  clear hK
  have j2 : (k : Int) < 18 := by omega
  have hB : Below wc.heap.size wc wc.drew := (Below.refl _ _).drew
  have hH : XB xb (.int .i64 at_) (.int .i64 (k : Nat)) (.string nm) nv wc.drew := hS.below hB
  clear hS
  refine wp_region_noPanic ?_
  refine wp_region_held_drew (S := XB xb (.int .i64 at_) (.int .i64 (k : Nat)) (.string nm) nv) (by kernel_rfl) hH (fun _ => ?_)
  first | (refine wpAnyH_take (i := 0) (v := ?_) rfl (by kernel_rfl) (by kernel_rfl) (by kernel_rfl) (fun _ _ _ h => h) (Or.inl ⟨by rfl, ?_⟩) hH ?_; rotate_left; (focus (intro w' hSw; obtain ⟨z0, z1, z2, z3⟩ := hSw; (try obtain ⟨s0, s1, s2⟩ := zv.at_ hk); (try unfold encB at s0); go_simp; (try with_reducible rfl); done)); (try simp only [Act.put, List.setIfInBounds_toArray, List.set_cons_zero, List.set_cons_succ, List.getElem_toArray, List.getElem_cons_succ, List.getElem_cons_zero])) | (refine wpAnyH_take (i := 0) (v := undef) rfl (by kernel_rfl) (by kernel_rfl) (by kernel_rfl) (fun _ _ _ h => h) (Or.inr ⟨by rfl, rfl⟩) hH ?_; (try simp only [Act.put, List.setIfInBounds_toArray, List.set_cons_zero, List.set_cons_succ, List.getElem_toArray, List.getElem_cons_succ, List.getElem_cons_zero]))
  first | (refine wpAnyH_take (i := 1) (v := ?_) rfl (by kernel_rfl) (by kernel_rfl) (by kernel_rfl) (fun _ _ _ h => h) (Or.inl ⟨by rfl, ?_⟩) hH ?_; rotate_left; (focus (intro w' hSw; obtain ⟨z0, z1, z2, z3⟩ := hSw; (try obtain ⟨s0, s1, s2⟩ := zv.at_ hk); (try unfold encB at s0); go_simp; (try with_reducible rfl); done)); (try simp only [Act.put, List.setIfInBounds_toArray, List.set_cons_zero, List.set_cons_succ, List.getElem_toArray, List.getElem_cons_succ, List.getElem_cons_zero])) | (refine wpAnyH_take (i := 1) (v := undef) rfl (by kernel_rfl) (by kernel_rfl) (by kernel_rfl) (fun _ _ _ h => h) (Or.inr ⟨by rfl, rfl⟩) hH ?_; (try simp only [Act.put, List.setIfInBounds_toArray, List.set_cons_zero, List.set_cons_succ, List.getElem_toArray, List.getElem_cons_succ, List.getElem_cons_zero]))
  first | (refine wpAnyH_take (i := 4) (v := ?_) rfl (by kernel_rfl) (by kernel_rfl) (by kernel_rfl) (fun _ _ _ h => h) (Or.inl ⟨by rfl, ?_⟩) hH ?_; rotate_left; (focus (intro w' hSw; obtain ⟨z0, z1, z2, z3⟩ := hSw; (try obtain ⟨s0, s1, s2⟩ := zv.at_ hk); (try unfold encB at s0); go_simp; (try with_reducible rfl); done)); (try simp only [Act.put, List.setIfInBounds_toArray, List.set_cons_zero, List.set_cons_succ, List.getElem_toArray, List.getElem_cons_succ, List.getElem_cons_zero])) | (refine wpAnyH_take (i := 4) (v := undef) rfl (by kernel_rfl) (by kernel_rfl) (by kernel_rfl) (fun _ _ _ h => h) (Or.inr ⟨by rfl, rfl⟩) hH ?_; (try simp only [Act.put, List.setIfInBounds_toArray, List.set_cons_zero, List.set_cons_succ, List.getElem_toArray, List.getElem_cons_succ, List.getElem_cons_zero]))
  first | (refine wpAnyH_take (i := 5) (v := ?_) rfl (by kernel_rfl) (by kernel_rfl) (by kernel_rfl) (fun _ _ _ h => h) (Or.inl ⟨by rfl, ?_⟩) hH ?_; rotate_left; (focus (intro w' hSw; obtain ⟨z0, z1, z2, z3⟩ := hSw; (try obtain ⟨s0, s1, s2⟩ := zv.at_ hk); (try unfold encB at s0); go_simp; (try with_reducible rfl); done)); (try simp only [Act.put, List.setIfInBounds_toArray, List.set_cons_zero, List.set_cons_succ, List.getElem_toArray, List.getElem_cons_succ, List.getElem_cons_zero])) | (refine wpAnyH_take (i := 5) (v := undef) rfl (by kernel_rfl) (by kernel_rfl) (by kernel_rfl) (fun _ _ _ h => h) (Or.inr ⟨by rfl, rfl⟩) hH ?_; (try simp only [Act.put, List.setIfInBounds_toArray, List.set_cons_zero, List.set_cons_succ, List.getElem_toArray, List.getElem_cons_succ, List.getElem_cons_zero]))
  refine wpAnyH_ready (rs := [2]) (by kernel_rfl) (by simp) (AllReadyH.cons rfl (fun K' hK' => ?_) AllReadyH.nil)
  go_simp
  refine (itoa_any at_ _ h0 h1 (ht.below (below_trans hw hB))).mono ?_
  rintro e w1 ⟨rfl, hb1⟩
  (try dsimp only)
  have hB1 := below_trans hB hb1
  have hH1 := hH.below hb1
  generalize (⟨(Lib.itoa at_).toArray⟩ : ByteArray) = A at *
  clear hb1
  refine hK'.out _ _ hH1 (fun _ => ?_)
  clear hK' K'
  (try simp only [Act.put, List.setIfInBounds_toArray, List.set_cons_zero, List.set_cons_succ, List.getElem_toArray, List.getElem_cons_succ, List.getElem_cons_zero])
  refine wpAnyH_ready (rs := [3]) (by kernel_rfl) (by simp) (AllReadyH.cons rfl (fun K' hK' => ?_) AllReadyH.nil)
  go_simp
  refine (verbs_any _).mono ?_
  rintro e w2 ⟨rfl, hw2⟩
  (try dsimp only)
  have hV2 := verbs_new w1
  have hb2 : Below w1.heap.size w1 w2 := by rw [hw2]; exact balloc (Below.refl _ _) _
  have hB2 := below_trans hB1 hb2
  have hH2 := hH1.below hb2
  have hG : XV xb w1.heap.size (.int .i64 at_) (.int .i64 (k : Nat)) (.string nm) nv w2 := ⟨hH2, by rw [hw2]; exact hV2⟩
  clear hw2 hV2 hb2
  refine hK'.out _ _ hH2 (fun _ => ?_)
  refine wpAnyH_weaken (S' := XV xb w1.heap.size (.int .i64 at_) (.int .i64 (k : Nat)) (.string nm) nv) (fun _ h => h.s) _ _ _ _ ?_
  clear hK' K'
  (try simp only [Act.put, List.setIfInBounds_toArray, List.set_cons_zero, List.set_cons_succ, List.getElem_toArray, List.getElem_cons_succ, List.getElem_cons_zero])
  first | (refine wpAnyH_take (i := 6) (v := ?_) rfl (by kernel_rfl) (by kernel_rfl) (by kernel_rfl) (fun _ _ _ h => h) (Or.inl ⟨by rfl, ?_⟩) hG ?_; rotate_left; (focus (intro w' hSw; obtain ⟨⟨z0, z1, z2, z3⟩, zv⟩ := hSw; (try obtain ⟨s0, s1, s2⟩ := zv.at_ hk); (try unfold encB at s0); go_simp; (try with_reducible rfl); done)); (try simp only [Act.put, List.setIfInBounds_toArray, List.set_cons_zero, List.set_cons_succ, List.getElem_toArray, List.getElem_cons_succ, List.getElem_cons_zero])) | (refine wpAnyH_take (i := 6) (v := undef) rfl (by kernel_rfl) (by kernel_rfl) (by kernel_rfl) (fun _ _ _ h => h) (Or.inr ⟨by rfl, rfl⟩) hG ?_; (try simp only [Act.put, List.setIfInBounds_toArray, List.set_cons_zero, List.set_cons_succ, List.getElem_toArray, List.getElem_cons_succ, List.getElem_cons_zero]))
  first | (refine wpAnyH_take (i := 7) (v := ?_) rfl (by kernel_rfl) (by kernel_rfl) (by kernel_rfl) (fun _ _ _ h => h) (Or.inl ⟨by rfl, ?_⟩) hG ?_; rotate_left; (focus (intro w' hSw; obtain ⟨⟨z0, z1, z2, z3⟩, zv⟩ := hSw; (try obtain ⟨s0, s1, s2⟩ := zv.at_ hk); (try unfold encB at s0); go_simp; (try with_reducible rfl); done)); (try simp only [Act.put, List.setIfInBounds_toArray, List.set_cons_zero, List.set_cons_succ, List.getElem_toArray, List.getElem_cons_succ, List.getElem_cons_zero])) | (refine wpAnyH_take (i := 7) (v := undef) rfl (by kernel_rfl) (by kernel_rfl) (by kernel_rfl) (fun _ _ _ h => h) (Or.inr ⟨by rfl, rfl⟩) hG ?_; (try simp only [Act.put, List.setIfInBounds_toArray, List.set_cons_zero, List.set_cons_succ, List.getElem_toArray, List.getElem_cons_succ, List.getElem_cons_zero]))
  first | (refine wpAnyH_take (i := 8) (v := ?_) rfl (by kernel_rfl) (by kernel_rfl) (by kernel_rfl) (fun _ _ _ h => h) (Or.inl ⟨by rfl, ?_⟩) hG ?_; rotate_left; (focus (intro w' hSw; obtain ⟨⟨z0, z1, z2, z3⟩, zv⟩ := hSw; (try obtain ⟨s0, s1, s2⟩ := zv.at_ hk); (try unfold encB at s0); go_simp; (try with_reducible rfl); done)); (try simp only [Act.put, List.setIfInBounds_toArray, List.set_cons_zero, List.set_cons_succ, List.getElem_toArray, List.getElem_cons_succ, List.getElem_cons_zero])) | (refine wpAnyH_take (i := 8) (v := undef) rfl (by kernel_rfl) (by kernel_rfl) (by kernel_rfl) (fun _ _ _ h => h) (Or.inr ⟨by rfl, rfl⟩) hG ?_; (try simp only [Act.put, List.setIfInBounds_toArray, List.set_cons_zero, List.set_cons_succ, List.getElem_toArray, List.getElem_cons_succ, List.getElem_cons_zero]))
  refine wpAnyH_ready (rs := [9]) (by kernel_rfl) (by simp) (AllReadyH.cons rfl (fun K' hK' => ?_) AllReadyH.nil)
  go_simp
  have hO3 := World.ownsRow_lit (base := wc.heap.size) (e := 9) (size := 1) w2 #[.string ⟨#[97, 116]⟩, .string A, .string ⟨(wordN k).toArray⟩] 3 hB2.size (by decide) rfl
  have hb3 := balloc (Below.refl w2.heap.size w2) (.cells #[.string ⟨#[97, 116]⟩, .string A, .string ⟨(wordN k).toArray⟩] 9)
  have hB3 := below_trans hB2 hb3
  have hG3 := hG.below hb3
  clear hb3
  generalize w2.alloc (.cells #[.string ⟨#[97, 116]⟩, .string A, .string ⟨(wordN k).toArray⟩] 9) = w3 at *
  generalize w2.heap.size = nb at *
  refine hK'.out _ _ hG3 (fun _ => ?_)
  clear hK' K'
  (try simp only [Act.put, List.setIfInBounds_toArray, List.set_cons_zero, List.set_cons_succ, List.getElem_toArray, List.getElem_cons_succ, List.getElem_cons_zero])
  first | (refine wpAnyH_take (i := 10) (v := ?_) rfl (by kernel_rfl) (by kernel_rfl) (by kernel_rfl) (fun _ _ _ h => h) (Or.inl ⟨by rfl, ?_⟩) hG3 ?_; rotate_left; (focus (intro w' hSw; obtain ⟨⟨z0, z1, z2, z3⟩, zv⟩ := hSw; (try obtain ⟨s0, s1, s2⟩ := zv.at_ hk); (try unfold encB at s0); go_simp; (try with_reducible rfl); done)); (try simp only [Act.put, List.setIfInBounds_toArray, List.set_cons_zero, List.set_cons_succ, List.getElem_toArray, List.getElem_cons_succ, List.getElem_cons_zero])) | (refine wpAnyH_take (i := 10) (v := undef) rfl (by kernel_rfl) (by kernel_rfl) (by kernel_rfl) (fun _ _ _ h => h) (Or.inr ⟨by rfl, rfl⟩) hG3 ?_; (try simp only [Act.put, List.setIfInBounds_toArray, List.set_cons_zero, List.set_cons_succ, List.getElem_toArray, List.getElem_cons_succ, List.getElem_cons_zero]))
  refine wpAnyH_done (by kernel_rfl) (NoPanic.normal ?_) _
  (try simp only [Act.put, List.setIfInBounds_toArray, List.set_cons_zero, List.set_cons_succ, List.getElem_toArray, List.getElem_cons_succ, List.getElem_cons_zero])
  exact HKK.out _ _ _ _ _ _ _ _ _ _ _ _ hB3 hO3
set_option maxRecDepth 100000 in
set_option maxHeartbeats 4000000 in
theorem text_reg4 {c : Code} (hc : c = rgOf Tryz.f15 4) {wc : World} {k : Nat} {Q : Exit → Act → World → Prop}
  (hS : XB xb (.int .i64 at_) (.int .i64 (k : Nat)) (.string nm) nv wc) (hk : k < 18)
  {v0 v2 v3 v4 v5 v6 v7 v8 v9 v10 v11 v12 v13 v14 v15 v16 v17 v18 v19 v20 v21 v22 v23 v24 v25 v26 v27 v28 v29 v30 v31 v32 v33 v34 v35 v36 v37 v38 v39 v40 v41 v42 v43 v44 v45 v46 v47 v48 v49 v50 v51 v52 v53 v54 v55 v56 v57 v58 v59 v60 v61 v62 v63 v64 v65 v66 v67 v68 v69 v70 v71 v72 v73 v74 v75 v76 v77 v78 v79 v80 v81 v82 v83 v84 v85 v86 v87 v88 : Value}
  (hK : ∀ (u26 u27 u28 u29 u30 : Value) (w' : World), Below wc.heap.size wc w' →
    Q Exit.normal { tmps := #[v0, .pointer (some ⟨xb, 0, none⟩), v2, v3, v4, v5, v6, v7, v8, v9, v10, v11, v12, v13, v14, v15, v16, v17, v18, v19, v20, v21, v22, v23, v24, v25, u26, u27, u28, u29, u30, .bool (namedB k), v32, v33, v34, v35, v36, v37, v38, v39, v40, v41, v42, v43, v44, v45, v46, v47, v48, v49, v50, v51, v52, v53, v54, v55, v56, v57, v58, v59, v60, v61, v62, v63, v64, v65, v66, v67, v68, v69, v70, v71, v72, v73, v74, v75, v76, v77, v78, v79, v80, v81, v82, v83, v84, v85, v86, v87, v88], defers := [] } w') :
  Code.wp Tryz.prog c Q { tmps := #[v0, .pointer (some ⟨xb, 0, none⟩), v2, v3, v4, v5, v6, v7, v8, v9, v10, v11, v12, v13, v14, v15, v16, v17, v18, v19, v20, v21, v22, v23, v24, v25, v26, v27, v28, v29, v30, v31, v32, v33, v34, v35, v36, v37, v38, v39, v40, v41, v42, v43, v44, v45, v46, v47, v48, v49, v50, v51, v52, v53, v54, v55, v56, v57, v58, v59, v60, v61, v62, v63, v64, v65, v66, v67, v68, v69, v70, v71, v72, v73, v74, v75, v76, v77, v78, v79, v80, v81, v82, v83, v84, v85, v86, v87, v88], defers := [] } wc := by
  subst hc
  conv => arg 2; whnf
  have HKK := Lib.hid hK
  clear hK
  have j2 : (k : Int) < 18 := by omega
  have hB : Below wc.heap.size wc wc.drew := (Below.refl _ _).drew
  have hH : XB xb (.int .i64 at_) (.int .i64 (k : Nat)) (.string nm) nv wc.drew := hS.below hB
  clear hS
  refine wp_region_noPanic ?_
  refine wp_region_held_drew (S := XB xb (.int .i64 at_) (.int .i64 (k : Nat)) (.string nm) nv) (by kernel_rfl) hH (fun _ => ?_)
  first | (refine wpAnyH_take (i := 1) (v := ?_) rfl (by kernel_rfl) (by kernel_rfl) (by kernel_rfl) (fun _ _ _ h => h) (Or.inl ⟨by rfl, ?_⟩) hH ?_; rotate_left; (focus (intro w' hSw; obtain ⟨z0, z1, z2, z3⟩ := hSw; (try obtain ⟨s0, s1, s2⟩ := zv.at_ hk); (try unfold encB at s0); go_simp; (try with_reducible rfl); done)); (try simp only [Act.put, List.setIfInBounds_toArray, List.set_cons_zero, List.set_cons_succ, List.getElem_toArray, List.getElem_cons_succ, List.getElem_cons_zero])) | (refine wpAnyH_take (i := 1) (v := undef) rfl (by kernel_rfl) (by kernel_rfl) (by kernel_rfl) (fun _ _ _ h => h) (Or.inr ⟨by rfl, rfl⟩) hH ?_; (try simp only [Act.put, List.setIfInBounds_toArray, List.set_cons_zero, List.set_cons_succ, List.getElem_toArray, List.getElem_cons_succ, List.getElem_cons_zero]))
  first | (refine wpAnyH_take (i := 2) (v := ?_) rfl (by kernel_rfl) (by kernel_rfl) (by kernel_rfl) (fun _ _ _ h => h) (Or.inl ⟨by rfl, ?_⟩) hH ?_; rotate_left; (focus (intro w' hSw; obtain ⟨z0, z1, z2, z3⟩ := hSw; (try obtain ⟨s0, s1, s2⟩ := zv.at_ hk); (try unfold encB at s0); go_simp; (try with_reducible rfl); done)); (try simp only [Act.put, List.setIfInBounds_toArray, List.set_cons_zero, List.set_cons_succ, List.getElem_toArray, List.getElem_cons_succ, List.getElem_cons_zero])) | (refine wpAnyH_take (i := 2) (v := undef) rfl (by kernel_rfl) (by kernel_rfl) (by kernel_rfl) (fun _ _ _ h => h) (Or.inr ⟨by rfl, rfl⟩) hH ?_; (try simp only [Act.put, List.setIfInBounds_toArray, List.set_cons_zero, List.set_cons_succ, List.getElem_toArray, List.getElem_cons_succ, List.getElem_cons_zero]))
  refine wpAnyH_ready (rs := [0]) (by kernel_rfl) (by simp) (AllReadyH.cons rfl (fun K' hK' => ?_) AllReadyH.nil)
  go_simp
  refine (verbs_any _).mono ?_
  rintro e w2 ⟨rfl, hw2⟩
  (try dsimp only)
  have hV2 := verbs_new wc.drew
  have hb2 : Below wc.drew.heap.size wc.drew w2 := by rw [hw2]; exact balloc (Below.refl _ _) _
  have hB2 := below_trans hB hb2
  have hH2 := hH.below hb2
  have hG : XV xb wc.heap.size (.int .i64 at_) (.int .i64 (k : Nat)) (.string nm) nv w2 := ⟨hH2, by rw [hw2]; exact hV2⟩
  clear hw2 hV2 hb2
  refine hK'.out _ _ hH2 (fun _ => ?_)
  refine wpAnyH_weaken (S' := XV xb wc.heap.size (.int .i64 at_) (.int .i64 (k : Nat)) (.string nm) nv) (fun _ h => h.s) _ _ _ _ ?_
  clear hK' K'
  (try simp only [Act.put, List.setIfInBounds_toArray, List.set_cons_zero, List.set_cons_succ, List.getElem_toArray, List.getElem_cons_succ, List.getElem_cons_zero])
  first | (refine wpAnyH_take (i := 3) (v := ?_) rfl (by kernel_rfl) (by kernel_rfl) (by kernel_rfl) (fun _ _ _ h => h) (Or.inl ⟨by rfl, ?_⟩) hG ?_; rotate_left; (focus (intro w' hSw; obtain ⟨⟨z0, z1, z2, z3⟩, zv⟩ := hSw; (try obtain ⟨s0, s1, s2⟩ := zv.at_ hk); (try unfold encB at s0); go_simp; (try with_reducible rfl); done)); (try simp only [Act.put, List.setIfInBounds_toArray, List.set_cons_zero, List.set_cons_succ, List.getElem_toArray, List.getElem_cons_succ, List.getElem_cons_zero])) | (refine wpAnyH_take (i := 3) (v := undef) rfl (by kernel_rfl) (by kernel_rfl) (by kernel_rfl) (fun _ _ _ h => h) (Or.inr ⟨by rfl, rfl⟩) hG ?_; (try simp only [Act.put, List.setIfInBounds_toArray, List.set_cons_zero, List.set_cons_succ, List.getElem_toArray, List.getElem_cons_succ, List.getElem_cons_zero]))
  first | (refine wpAnyH_take (i := 4) (v := ?_) rfl (by kernel_rfl) (by kernel_rfl) (by kernel_rfl) (fun _ _ _ h => h) (Or.inl ⟨by rfl, ?_⟩) hG ?_; rotate_left; (focus (intro w' hSw; obtain ⟨⟨z0, z1, z2, z3⟩, zv⟩ := hSw; (try obtain ⟨s0, s1, s2⟩ := zv.at_ hk); (try unfold encB at s0); go_simp; (try with_reducible rfl); done)); (try simp only [Act.put, List.setIfInBounds_toArray, List.set_cons_zero, List.set_cons_succ, List.getElem_toArray, List.getElem_cons_succ, List.getElem_cons_zero])) | (refine wpAnyH_take (i := 4) (v := undef) rfl (by kernel_rfl) (by kernel_rfl) (by kernel_rfl) (fun _ _ _ h => h) (Or.inr ⟨by rfl, rfl⟩) hG ?_; (try simp only [Act.put, List.setIfInBounds_toArray, List.set_cons_zero, List.set_cons_succ, List.getElem_toArray, List.getElem_cons_succ, List.getElem_cons_zero]))
  first | (refine wpAnyH_take (i := 5) (v := ?_) rfl (by kernel_rfl) (by kernel_rfl) (by kernel_rfl) (fun _ _ _ h => h) (Or.inl ⟨by rfl, ?_⟩) hG ?_; rotate_left; (focus (intro w' hSw; obtain ⟨⟨z0, z1, z2, z3⟩, zv⟩ := hSw; (try obtain ⟨s0, s1, s2⟩ := zv.at_ hk); (try unfold encB at s0); go_simp; (try with_reducible rfl); done)); (try simp only [Act.put, List.setIfInBounds_toArray, List.set_cons_zero, List.set_cons_succ, List.getElem_toArray, List.getElem_cons_succ, List.getElem_cons_zero])) | (refine wpAnyH_take (i := 5) (v := undef) rfl (by kernel_rfl) (by kernel_rfl) (by kernel_rfl) (fun _ _ _ h => h) (Or.inr ⟨by rfl, rfl⟩) hG ?_; (try simp only [Act.put, List.setIfInBounds_toArray, List.set_cons_zero, List.set_cons_succ, List.getElem_toArray, List.getElem_cons_succ, List.getElem_cons_zero]))
  refine wpAnyH_done (by kernel_rfl) (NoPanic.normal ?_) _
  (try simp only [Act.put, List.setIfInBounds_toArray, List.set_cons_zero, List.set_cons_succ, List.getElem_toArray, List.getElem_cons_succ, List.getElem_cons_zero])
  exact HKK.out _ _ _ _ _ _ hB2
end
end Go.Proofs.YtkjajpfgdjfcoaaGreatDoor
namespace Go.Proofs.YtkjajpfgdjfcoaaGreatDoor
open Go.RowKit
theorem drewN_below (w : World) (q : Nat) : Below w.heap.size w (w.drewN q) := below_drewN (Below.refl _ _) q
set_option maxRecDepth 100000 in
set_option maxHeartbeats 800000 in
theorem equal_any (v1 v2 : Value) (xs ys : List Int) (w : World) (h1 : RowI w v1 xs) (h2 : RowI w v2 ys) (hl1 : xs.length ≤ 9223372036854775807) (hl2 : ys.length ≤ 9223372036854775807) :
    Calls Tryz.prog 44 #[v1, v2] w fun e w' => e = .returned (.bool (xs == ys)) ∧ Below w.heap.size w w' := by
  obtain ⟨a1, c1, rfl, h1⟩ := h1
  obtain ⟨a2, c2, rfl, h2⟩ := h2
  rcases h1 with h1 | ⟨b1, o1, rfl, hb1, hc1⟩
  · obtain rfl : xs = [] := List.length_eq_zero_iff.1 h1
    refine (Tryz.slices_Equal_int_empty a1 a2 c1 ys.length c2 w hl2).mono ?_
    rintro e w' ⟨rfl, rfl⟩
    refine ⟨ret_bool ?_, Below.refl _ _⟩
    cases ys <;> simp
  · rcases h2 with h2 | ⟨b2, o2, rfl, hb2, hc2⟩
    · obtain rfl : ys = [] := List.length_eq_zero_iff.1 h2
      by_cases hx : xs.length = 0
      · obtain rfl : xs = [] := List.length_eq_zero_iff.1 hx
        refine (Tryz.slices_Equal_int_empty (some ⟨b1, o1, none⟩) a2 c1 0 c2 w (by omega)).mono ?_
        rintro e w' ⟨rfl, rfl⟩
        exact ⟨rfl, Below.refl _ _⟩
      · have HE : Hid ((xs == []) = false) := show _ = _ from by cases xs with
          | nil => simp at hx
          | cons => rfl
        have hz : ((xs.length : Int) != 0) = true := bne_iff_ne.2 (by omega)
        clear hc1 hx
        go_enter Tryz.func44, Tryz.ntmps44
        go_wp2_with fail
        go_ret
        exact ⟨ret_bool HE.out.symm, Below.refl _ _⟩
    · refine (Tryz.slices_Equal_int b1 o1 xs.length c1 b2 o2 ys.length c2 xs ys w (Nat.le_refl _) (Nat.le_refl _) hl1 hl2 hc1 hc2).mono ?_
      rintro e w' ⟨rfl, q, rfl⟩
      exact ⟨ret_bool (by rw [List.take_length, List.take_length]), drewN_below _ _⟩
theorem many_all : ∀ j : Fin manyL.length, manyL[j.val] ≤ 4 := by decide
theorem manyN_le (k : Nat) : manyN k ≤ 4 := by
  unfold manyN
  rw [List.getD_eq_getElem?_getD]
  by_cases h : k < manyL.length
  · rw [List.getElem?_eq_getElem h]
    exact many_all ⟨k, h⟩
  · rw [List.getElem?_eq_none (by omega)]; simp
theorem numsOf_len {num : List UInt8 → Option Int} {t : Int} {k : Nat} {nm : List UInt8} {rs : List (List UInt8)} {x : OL} (h : numsOf num t k nm rs = some x) : x.nums.length ≤ 4 := by
  unfold numsOf at h
  split at h
  · rename_i hl
    cases hm : rs.mapM num with
    | none => rw [hm] at h; cases h
    | some ns =>
      rw [hm] at h
      simp only [Option.some.injEq] at h
      subst h
      have := mapM_len hm
      have := manyN_le k
      simp only
      omega
  · cases h
theorem formO_len {num : List UInt8 → Option Int} {ws : List (List UInt8)} {x : OL} (h : formO num ws = some x) : x.nums.length ≤ 4 := by
  match ws, h with
  | [], h => cases h
  | [_], h => cases h
  | [_, _], h => cases h
  | a :: t :: v :: rest, h =>
    simp only [formO] at h
    split at h
    · cases hn : num t with
      | none => rw [hn] at h; cases h
      | some n =>
        rw [hn] at h
        simp only at h
        split at h
        · cases h
        · split at h
          · cases rest with
            | nil => cases h
            | cons nm rs =>
              simp only at h
              split at h
              · exact numsOf_len h
              · cases h
          · exact numsOf_len h
    · cases h
theorem lineV_len (num : List UInt8 → Option Int) (s : List UInt8) : (lineV num s).nums.length ≤ 4 := by
  unfold lineV
  split
  · simp [zeroOL]
  · cases h : formO num (wordsL s) with
    | none => simp [zeroOL]
    | some x =>
      simp only
      split
      · simp [zeroOL]
      · exact formO_len h
theorem join_len (B : Nat) : ∀ (l : List (List UInt8)), (∀ x ∈ l, x.length ≤ B) → (Lib.join l [32]).length ≤ l.length * (B + 1)
  | [], _ => by simp [Lib.join, List.intercalate]
  | [a], h => by rw [join_one]; have := h a (by simp); simp; omega
  | a :: b :: l, h => by
    rw [join_two]
    have h1 := h a (by simp)
    have h2 := join_len B (b :: l) (fun x hx => h x (by simp [hx]))
    simp only [List.length_append, List.length_cons] at h2 ⊢
    have e : (l.length + 1 + 1) * (B + 1) = (l.length + 1) * (B + 1) + (B + 1) := by rw [Nat.add_mul (l.length + 1) 1, Nat.one_mul]
    omega
theorem join_bound {l : List (List UInt8)} (hN : l.length ≤ 1048580) (hl : ∀ x ∈ l, x.length ≤ 1048576) : (Lib.join l [32]).length ≤ 8796093022000 := by
  have h := join_len 1048576 l hl
  have h2 : l.length * (1048576 + 1) ≤ 1048580 * (1048576 + 1) := Nat.mul_le_mul_right _ hN
  omega
theorem join_any (g cap : Nat) (l : List (List UInt8)) (w : World) (hW : WRow w g 0 l) (hcap : l.length ≤ cap) (hN : l.length ≤ 1048580) (hl : ∀ x ∈ l, x.length ≤ 1048576) :
    Calls Tryz.prog 43 #[.slice (some ⟨g, 0, none⟩) l.length cap, .string ⟨#[32]⟩] w fun e w' => e = .returned (.string ⟨(Lib.join l [32]).toArray⟩) ∧ Below w.heap.size w w' := by
  have hb := join_bound hN hl
  have e1 : (l.map fun x => (⟨x.toArray⟩ : ByteArray)).map (·.data.toList) = l := by rw [List.map_map]; simp [Function.comp_def]
  have h := Tryz.strings_Join g 0 cap (l.map fun x => (⟨x.toArray⟩ : ByteArray)) ⟨#[32]⟩ w (fun j x hx => by
    rw [List.getElem?_map] at hx
    cases hj : l[j]? with
    | none => rw [hj] at hx; cases hx
    | some y =>
      rw [hj] at hx
      have hlt := (List.getElem?_eq_some_iff.1 hj).1
      have := hW.cell j hlt
      rw [List.getD_eq_getElem?_getD, hj] at this
      rw [this]
      simp only [Option.map_some, Option.some.injEq] at hx
      rw [← hx]; rfl) hW.hg (by simp; omega) (by simpa using hcap) (by rw [e1]; show (Lib.join l [32]).length ≤ _; omega)
  rw [e1, List.length_map] at h
  exact h
end Go.Proofs.YtkjajpfgdjfcoaaGreatDoor
namespace Go.Proofs.YtkjajpfgdjfcoaaGreatDoor
open Go.RowKit Go.Maps Go.Sort Go.Shelf
/-- how a line is written, with what is returned -/
def textR (at_ v : Int) (nm : List UInt8) (ns : List Int) : List UInt8 × Int :=
  if outI v 1 17 then ([], 2) else if okOL ⟨at_, v.toNat, nm, ns⟩ then (lineT ⟨at_, v.toNat, nm, ns⟩, 0) else ([], 2)
def TextEnd (w : World) (r : List UInt8 × Int) (e : Ending) (w' : World) : Prop :=
  e = .returned (.tuple #[.string ⟨r.1.toArray⟩, .int .i64 r.2]) ∧ Below w.heap.size w w'
/-- what the words of a line are, up to a number -/
def headW (x : OL) : List (List UInt8) := wAt :: Lib.itoa x.at_ :: wordN x.verb :: (if namedB x.verb then [x.name] else [])
def wordsUp (x : OL) (j : Nat) : List (List UInt8) := headW x ++ (x.nums.take j).map Lib.itoa
theorem wordsUp_all (x : OL) : wordsUp x x.nums.length = lineWords x := by
  unfold wordsUp headW lineWords; rw [List.take_length]; simp
theorem wordsUp_zero (x : OL) : wordsUp x 0 = headW x := by unfold wordsUp; simp
theorem wordsUp_succ (x : OL) {j : Nat} (h : j < x.nums.length) : wordsUp x (j + 1) = wordsUp x j ++ [Lib.itoa (x.nums.getD j 0)] := by
  unfold wordsUp; rw [take_snoc_getD 0 h]; simp
theorem headW_len (x : OL) : (headW x).length ≤ 4 := by unfold headW; split <;> simp
theorem word_short : ∀ {k : Nat}, 1 ≤ k → k ≤ 17 → (wordN k).length ≤ 8 := by
  intro k h1 h2
  have : ∀ j : Fin 18, (wordN j.val).length ≤ 8 := by decide
  exact this ⟨k, by omega⟩
theorem encB_map (l : List (List UInt8)) : l.map encB = (l.map fun x => (⟨x.toArray⟩ : ByteArray)).map Value.string := by rw [List.map_map]; rfl
set_option maxRecDepth 100000 in
set_option maxHeartbeats 4000000 in
theorem text_tail {c : Code} (hc : c = frOf Tryz.f15 6) {w wc : World} {xb bs : Nat} {nv v4 : Value} {x : OL} (ht : Tab10 w)
  (hX : XB xb (.int .i64 x.at_) (.int .i64 (x.verb : Nat)) (.string ⟨x.name.toArray⟩) nv wc) (hN : RowI w nv x.nums) (hNl : x.nums.length ≤ 1048576) (hNi : ∀ n ∈ x.nums, -9223372036854775808 ≤ n ∧ n ≤ 9223372036854775807)
  (hnl : x.name.length ≤ 1048576) (ha : -9223372036854775808 ≤ x.at_ ∧ x.at_ ≤ 9223372036854775807) (hv : 1 ≤ x.verb ∧ x.verb ≤ 17)
  (hbs : w.heap.size ≤ bs) (hbs2 : bs ≤ wc.heap.size)
  (hxl : xb < bs) (hO : wc.ownsRow bs 9 1 v4 (headW x).length ((headW x).map encB)) (hB : Below w.heap.size w wc)
  {v0 v2 v3 v5 v6 v7 v8 v9 v10 v11 v12 v13 v14 v15 v16 v17 v18 v19 v20 v21 v22 v23 v24 v25 v26 v27 v28 v29 v30 v31 v32 v33 v34 v35 v36 v37 v38 v39 v40 v41 v42 v43 v44 v45 v46 v47 v48 v49 v50 v51 v52 v53 v54 v55 v56 v57 v58 v59 v60 v61 v62 v63 v64 v65 v66 v67 v68 v69 v70 v71 v72 v73 v74 v75 v76 v77 v78 v79 v80 v81 v82 v83 v84 v85 v86 v87 v88 : Value} :
  Code.wp Tryz.prog c (bodyPost Tryz.prog Tryz.f15 (TextEnd w (textR x.at_ (x.verb : Nat) x.name x.nums))) { tmps := #[v0, .pointer (some ⟨xb, 0, none⟩), v2, v3, v4, v5, v6, v7, v8, v9, v10, v11, v12, v13, v14, v15, v16, v17, v18, v19, v20, v21, v22, v23, v24, v25, v26, v27, v28, v29, v30, v31, v32, v33, v34, v35, v36, v37, v38, v39, v40, v41, v42, v43, v44, v45, v46, v47, v48, v49, v50, v51, v52, v53, v54, v55, v56, v57, v58, v59, v60, v61, v62, v63, v64, v65, v66, v67, v68, v69, v70, v71, v72, v73, v74, v75, v76, v77, v78, v79, v80, v81, v82, v83, v84, v85, v86, v87, v88], defers := [] } wc := by
  subst hc
  conv => arg 2; whnf
  obtain ⟨i0, hi, hz0, hz1, hz2⟩ := info_parts Tryz.info9
  have HT0 := Lib.hid ht
  obtain ⟨n, k, nm, ns⟩ := x
  simp only at *
  obtain ⟨na, ncp, rfl, hx⟩ := id hN
  clear hx
  have HN := Lib.hid hN
  have HNI := Lib.hid hNi
  clear hN hNi ht
  have HOZ : Hid (wc.ownsRow bs 9 1 v4 (wordsUp ⟨n, k, nm, ns⟩ 0).length ((wordsUp ⟨n, k, nm, ns⟩ 0).map encB)) := by rw [wordsUp_zero]; exact hO
  have HL : Hid (∀ j, (wordsUp ⟨n, k, nm, ns⟩ j).length ≤ 1048580) := fun j => by
    have := headW_len ⟨n, k, nm, ns⟩
    unfold wordsUp; simp only [List.length_append, List.length_map, List.length_take]; omega
  clear hO
  obtain ⟨q0, q1, q2, q3⟩ := id hX
  go_wp2_with fail
  clear q0 q1 q2 q3
  go_loopw [4, 40] (fun v4 i wr => ∃ (j : Nat) (v : Value), j ≤ ns.length ∧ i = .int .i64 j ∧ v = v4 ∧ XB xb (.int .i64 n) (.int .i64 (k : Nat)) (.string ⟨nm.toArray⟩) (.slice na ns.length ncp) wr ∧ Hid (wr.ownsRow bs 9 1 v (wordsUp ⟨n, k, nm, ns⟩ j).length ((wordsUp ⟨n, k, nm, ns⟩ j).map encB)) ∧ Below w.heap.size w wr ∧ bs ≤ wr.heap.size) (fun _ i _ => ns.length - (intOf i).toNat)
  case atStart => exact ⟨0, v4, Nat.zero_le _, rfl, rfl, hX, HOZ, hB, hbs2⟩
  case round =>
    obtain ⟨j, v, hj, rfl, rfl, hXj, HOj, hBj, hsj⟩ := hrel
    clear hX HOZ hB
    by_cases hlt : j < ns.length
    · obtain ⟨a', c', hac, h0 | ⟨b, off, rfl, hb, hc⟩⟩ := HN.out.below hBj
      · omega
      · simp only [Value.slice.injEq] at hac
        obtain ⟨rfl, -, rfl⟩ := hac
        have s0 := hc j hlt
        have hni := HNI.out _ (getD_mem (d := 0) hlt)
        have HWS := Lib.hid (wordsUp_succ ⟨n, k, nm, ns⟩ hlt)
        simp only at HWS
        generalize ns.getD j 0 = q at *
        have i2 : (j : Int) < (ns.length : Int) := by omega
        have HIT := Lib.hid (itoa_any q wr hni.1 hni.2 (HT0.out.below hBj))
        generalize Lib.itoa q = A0 at *
        have hLl := HL.out j
        generalize wordsUp ⟨n, k, nm, ns⟩ j = L at *
        clear hc
        go_wp2_with fail
        refine HIT.out.mono ?_
        rintro e w2 ⟨rfl, hb2⟩
        obtain ⟨A, hA⟩ : ∃ A : ByteArray, (⟨A0.toArray⟩ : ByteArray) = A := ⟨_, rfl⟩
        rw [hA]
        have HA := Lib.hid hA
        have hX2 := hXj.below hb2
        have hB2 : Below w.heap.size w w2 := below_trans hBj hb2
        have HO2 := Lib.hid (ownsRow_below HOj.out hb2)
        have hsz2 : wr.heap.size ≤ w2.heap.size := hb2.size
        clear hXj HOj hBj hb2 HIT s0 hA
        go_wp2_with ((at_builtin; refine wpList_append_lies _ (by rfl) _ _ _ (by rfl) bs 9 i0 _ 1 16 Tryz.underlying22 hi hz0 hz1 hz2 rfl (by omega) v L.length _ (by rfl) (World.ownsRow.alloc HO2.out _) ⟨w2.heap.size, 0, none⟩ 1 1 [.string A] (by rfl) (by rfl) (World.news_of_block (cs := #[.string A]) (t := 9) (fr := (0, 0)) (alloc_new w2 _)) (by simp [Value.oneCell']) (by omega) (by unfold maxLen; omega) (by omega) (by simp; omega) (w2.heap.size + 1) (by simp) ?_))
        intro g7 cap7 w7 hown7 hgrow hat hlt7
        have hn0 := rows_ne HO2.out (b := xb) hxl
        have hba : Below w2.heap.size w2 (w2.alloc (.cells #[.string A] 9)) := balloc (Below.refl _ _) _
        have hX7 := (hX2.below hba).grown hgrow hn0
        have hB7 : Below w.heap.size w w7 := grow_below (balloc hB2 _) hgrow (fun x hx => by have := (HO2.out.lt x hx).1; omega)
        have hs7 : bs ≤ w7.heap.size := by have h1 := hgrow.size; have h2 := hba.size; omega
        clear hat
        go_wp2_with fail
        go_roundw
        case rel =>
          refine ⟨j + 1, _, by omega, by go_num, rfl, hX7, ?_, hB7, hs7⟩
          show World.ownsRow _ _ _ _ _ _ _
          rw [HWS.out, List.map_append, List.length_append]
          have : [A0].map encB = [Value.string A] := by rw [← HA.out]; rfl
          rw [this]
          exact hown7
        case measure => simp [intOf]; omega
    · obtain rfl : j = ns.length := by omega
      have hLA : wordsUp ⟨n, k, nm, ns⟩ ns.length = lineWords ⟨n, k, nm, ns⟩ := wordsUp_all ⟨n, k, nm, ns⟩
      have hLl := HL.out ns.length
      have hO := HOj.out
      rw [hLA] at hLl hO
      have hne : lineWords ⟨n, k, nm, ns⟩ ≠ [] := by unfold lineWords; exact List.cons_ne_nil _ _
      obtain ⟨g, cap, rfl, hg1, hcap, hcap2, hWR⟩ := wrow_of_own (l := lineWords ⟨n, k, nm, ns⟩) hO hne
      have hLb : ∀ y ∈ lineWords ⟨n, k, nm, ns⟩, y.length ≤ 1048576 := by
        intro y hy
        unfold lineWords at hy
        simp only [List.mem_cons, List.mem_append, List.mem_map] at hy
        rcases hy with rfl | rfl | rfl | hy | ⟨q, hq, rfl⟩
        · decide
        · have := Lib.itoa_length_le n (by omega) (by omega); omega
        · have := word_short hv.1 hv.2; show (wordN k).length ≤ _; omega
        · split at hy
          · have : y = nm := by simpa using hy
            rw [this]; exact hnl
          · cases hy
        · have hq2 := HNI.out q hq
          have := Lib.itoa_length_le q (by omega) (by omega); omega
      have HJN := Lib.hid (join_any g cap (lineWords ⟨n, k, nm, ns⟩) wr hWR hcap hLl hLb)
      have hTl : (lineT ⟨n, k, nm, ns⟩).length ≤ 8796093022000 := join_bound hLl hLb
      have HPS := Lib.hid (fun W h => parse_any (lineT ⟨n, k, nm, ns⟩) W h hTl)
      have hso := text_same (x := ⟨n, k, nm, ns⟩) hv.1 hv.2
      have HTR : Hid (textR n (k : Nat) nm ns = if okOL ⟨n, k, nm, ns⟩ then (lineT ⟨n, k, nm, ns⟩, 0) else ([], 2)) := by
        unfold Hid textR
        rw [if_neg (by rw [outI_false.2 ⟨by omega, by omega⟩]; simp), show (((k : Nat) : Int)).toNat = k from rfl]
      have HSO := Lib.hid hso
      have HYL : Hid ((lineV numO (lineT ⟨n, k, nm, ns⟩)).nums.length ≤ 9223372036854775807) := Nat.le_trans (lineV_len _ _) (by decide)
      have HL0 : Hid (Lib.join (lineWords ⟨n, k, nm, ns⟩) [32] = lineT ⟨n, k, nm, ns⟩) := show _ = _ from rfl
      rw [HL0.out] at HJN
      generalize textR n (k : Nat) nm ns = tv at *
      generalize (lineWords ⟨n, k, nm, ns⟩).length = lw at *
      generalize lineT ⟨n, k, nm, ns⟩ = T at *
      generalize lineV numO T = Y at *
      generalize lineE numO T = E at *
      obtain ⟨ya, yk, yn, ys⟩ := Y
      clear HOj HL hLA hLl hO hne hcap hcap2 hWR hLb hTl hso HL0 hg1
      go_wp2_with fail
      refine HJN.out.mono ?_
      rintro e w2 ⟨rfl, hb2⟩
      have hX2 := hXj.below hb2
      have hB2 := below_trans hBj hb2
      clear hXj hBj hb2 HJN
      go_wp2_with fail
      refine (HPS.out _ (HT0.out.below hB2)).mono ?_
      rintro e w3 ⟨vy, rfl, hry, hb3⟩
      have hX3 := hX2.below hb3
      have hB3 := below_trans hB2 hb3
      simp only at hry
      simp only
      clear hX2 hB2 hb3 HPS
      obtain ⟨va, vc, rfl, hx⟩ := id hry
      clear hx
      have hYN := alloc_new w3 (.cells #[.int .i64 ya, .int .i64 (yk : Nat), .string ⟨yn.toArray⟩, .slice va ys.length vc] 84)
      have hba := balloc (Below.refl w3.heap.size w3) (.cells #[.int .i64 ya, .int .i64 (yk : Nat), .string ⟨yn.toArray⟩, .slice va ys.length vc] 84)
      have hX4 := hX3.below hba
      have hB4 := below_trans hB3 hba
      have hry4 := hry.below hba
      go_upto_region 13 with fail
      generalize w3.alloc (.cells #[.int .i64 ya, .int .i64 (yk : Nat), .string ⟨yn.toArray⟩, .slice va ys.length vc] 84) = w4 at *
      generalize w3.heap.size = yb at *
      have hYN : cellsAt w4 yb 84 #[.int .i64 ya, .int .i64 (yk : Nat), .string ⟨yn.toArray⟩, .slice va ys.length vc] := hYN
      obtain ⟨q0, q1, q2, q3⟩ := hX4
      obtain ⟨y0, y1, y2, y3⟩ := cells4 hYN
      have HEQ := Lib.hid (equal_any (.slice va ys.length vc) (.slice na ns.length ncp) ys ns w4 hry4 (HN.out.below hB4) HYL.out (by omega))
      clear hX3 hB3 hba hry hry4 hYN
      have HNO : Hid ((E = 0 ∧ (⟨ya, yk, yn, ys⟩ : OL) = ⟨n, k, nm, ns⟩) ∨ tv = ([], 2)) := by
        by_cases h : okOL ⟨n, k, nm, ns⟩ = true
        · exact .inl (HSO.out.2 h)
        · exact .inr (by rw [HTR.out, if_neg h])
      by_cases hE : E = 0
      · have hEb : (E != 0) = false := by simp [hE]
        by_cases h1 : ya = n
        · have h1b : (ya != n) = false := by simp [h1]
          by_cases h2 : yk = k
          · have h2b : (((yk : Nat) : Int) != ((k : Nat) : Int)) = false := by simp [h2]
            by_cases h3 : yn = nm
            · have h3b : (yn == nm) = true := by simp [h3]
              by_cases h4 : ys = ns
              · have HTY : Hid (tv = (T, 0)) := by
                  unfold Hid
                  rw [HTR.out, if_pos (HSO.out.1 ⟨hE, by rw [h1, h2, h3, h4]⟩)]
                have h4b : (ys == ns) = true := by simp [h4]
                rw [h4b] at HEQ
                clear hE h1 h2 h3 h4 h4b HTR HSO HNO
                go_wp2_with fail
                refine HEQ.out.mono ?_
                rintro e w5 ⟨rfl, hb5⟩
                have hB5 := below_trans hB4 hb5
                go_wp2_with fail
                go_ret2
                exact ⟨by rw [HTY.out]; rfl, hB5⟩
              · have HTY : Hid (tv = ([], 2)) := HNO.out.resolve_left (fun h => h4 (OL.mk.inj h.2).2.2.2)
                have h4b : (ys == ns) = false := by simp [h4]
                rw [h4b] at HEQ
                clear hE h1 h2 h3 h4 h4b HTR HSO HNO
                go_wp2_with fail
                refine HEQ.out.mono ?_
                rintro e w5 ⟨rfl, hb5⟩
                have hB5 := below_trans hB4 hb5
                go_wp2_with fail
                go_ret2
                exact ⟨by rw [HTY.out]; rfl, hB5⟩
            · have HTY : Hid (tv = ([], 2)) := HNO.out.resolve_left (fun h => h3 (OL.mk.inj h.2).2.2.1)
              have h3b : (yn == nm) = false := by simp [h3]
              clear hE h1 h2 h3 HTR HSO HNO
              go_wp2_with fail
              go_ret2
              exact ⟨by rw [HTY.out]; rfl, hB4⟩
          · have HTY : Hid (tv = ([], 2)) := HNO.out.resolve_left (fun h => h2 (OL.mk.inj h.2).2.1)
            have h2b : (((yk : Nat) : Int) != ((k : Nat) : Int)) = true := by simp; omega
            clear hE h1 h2 HTR HSO HNO
            go_wp2_with fail
            go_ret2
            exact ⟨by rw [HTY.out]; rfl, hB4⟩
        · have HTY : Hid (tv = ([], 2)) := HNO.out.resolve_left (fun h => h1 (OL.mk.inj h.2).1)
          have h1b : (ya != n) = true := by simp [h1]
          clear hE h1 HTR HSO HNO
          go_wp2_with fail
          go_ret2
          exact ⟨by rw [HTY.out]; rfl, hB4⟩
      · have hEb : (E != 0) = true := by simp [hE]
        have HTY : Hid (tv = ([], 2)) := HNO.out.resolve_left (fun h => hE h.1)
        go_wp2_with fail
        go_ret2
        exact ⟨by rw [HTY.out]; rfl, hB4⟩
end Go.Proofs.YtkjajpfgdjfcoaaGreatDoor
namespace Go.Proofs.YtkjajpfgdjfcoaaGreatDoor
open Go.RowKit Go.Maps Go.Sort Go.Shelf
theorem ownsRow_base {w : World} {b b' : Nat} {e : TypeId} {size : Nat} {v : Value} {n : Nat} {xs : List Value} (h : w.ownsRow b e size v n xs) (hb : b' ≤ b) : w.ownsRow b' e size v n xs := by
  obtain ⟨h1, h2 | ⟨g, cap, cur, h3, h4, h5⟩⟩ := h
  · exact ⟨h1, .inl h2⟩
  · exact ⟨h1, .inr ⟨g, cap, cur, h3, by omega, h5⟩⟩
set_option maxRecDepth 100000 in
set_option maxHeartbeats 4000000 in
theorem text_any (at_ v : Int) (nm : List UInt8) (nv : Value) (ns : List Int) (w : World) (ht : Tab10 w) (hN : RowI w nv ns) (hNl : ns.length ≤ 1048576) (hNi : ∀ n ∈ ns, -9223372036854775808 ≤ n ∧ n ≤ 9223372036854775807)
    (hnl : nm.length ≤ 1048576) (ha : -9223372036854775808 ≤ at_ ∧ at_ ≤ 9223372036854775807) :
    Calls Tryz.prog 15 #[.agg #[.int .i64 at_, .int .i64 v, .string ⟨nm.toArray⟩, nv]] w (TextEnd w (textR at_ v nm ns)) := by
  obtain ⟨i0, hi, hz0, hz1, hz2⟩ := info_parts Tryz.info9
  obtain ⟨na, ncp, rfl, hx⟩ := id hN
  clear hx
  obtain ⟨W0, hW0⟩ : ∃ W0, w.alloc (.cells #[.int .i64 at_, .int .i64 v, .string ⟨nm.toArray⟩, .slice na ns.length ncp] 84) = W0 := ⟨_, rfl⟩
  have hC0 : cellsAt W0 w.heap.size 84 #[.int .i64 at_, .int .i64 v, .string ⟨nm.toArray⟩, .slice na ns.length ncp] := by rw [← hW0]; exact alloc_new _ _
  have hB0 : Below w.heap.size w W0 := by rw [← hW0]; exact balloc (Below.refl _ _) _
  have hz : w.heap.size + 1 ≤ W0.heap.size := by rw [← hW0]; simp
  obtain ⟨xb, hxe⟩ : ∃ xb, w.heap.size = xb := ⟨_, rfl⟩
  have hxb : w.heap.size ≤ xb := by omega
  have hxz : xb + 1 ≤ W0.heap.size := by omega
  rw [hxe] at hC0
  have HXE := Lib.hid hxe
  have HW0 := Lib.hid hW0
  have hX0 : XB xb (.int .i64 at_) (.int .i64 v) (.string ⟨nm.toArray⟩) (.slice na ns.length ncp) W0 := ⟨(cells4 hC0).1, (cells4 hC0).2.1, (cells4 hC0).2.2.1, (cells4 hC0).2.2.2⟩
  clear hxe hz hW0 hC0
  have HT := Lib.hid ht
  have HN := Lib.hid hN
  have HNI := Lib.hid hNi
  clear ht hN hNi
  go_enter Tryz.func15, Tryz.ntmps15
  go_upto_region 1 with fail
  rw [HW0.out, HXE.out]
  refine text_reg1 (by kernel_rfl) hX0 ?_
  intro u10 u11 u12 u13 u14 w1 hb1
  have hX1 := hX0.below hb1
  have hB1 := below_trans hB0 hb1
  have hs1 := hb1.size
  clear hX0 hB0 hb1
  cases ho : outI v 1 17 with
  | true =>
    have HTR : Hid (textR at_ v nm ns = ([], 2)) := by unfold Hid textR; rw [ho]; rfl
    generalize textR at_ v nm ns = tv at *
    go_wp2_with fail
    go_ret2
    exact ⟨by rw [HTR.out]; rfl, hB1⟩
  | false =>
    obtain ⟨hv1, hv2⟩ := outI_false.1 ho
    obtain ⟨k, rfl⟩ : ∃ k : Nat, v = (k : Int) := ⟨v.toNat, by omega⟩
    have hk : k < 18 := by omega
    go_upto_region 3 with fail
    refine text_reg3 (by kernel_rfl) hX1 hk HT.out hB1 ha.1 ha.2 _ ?_
    intro u16 u17 u18 u19 u20 u21 u22 u23 u24 u25 nb w2 hb2 hO2
    have hX2 := hX1.below hb2
    have hB2 := below_trans hB1 hb2
    have hs2 := hb2.size
    have HO2 := Lib.hid (ownsRow_base hO2 (show xb + 1 ≤ w1.heap.size by omega))
    clear hX1 hB1 hb2 hO2
    (try simp only [Exit.then])
    refine ‹∀ (a : Act) (w : World), Code.wp Tryz.prog _ _ a w → _› _ _ ?_
    apply wp_seq_k
    intro _ _
    go_cut [4] from 26 to 36 (fun v4 wx => Hid (wx.ownsRow (xb + 1) 9 1 v4 (headW ⟨at_, k, nm, ns⟩).length ((headW ⟨at_, k, nm, ns⟩).map encB)) ∧ XB xb (.int .i64 at_) (.int .i64 (k : Nat)) (.string ⟨nm.toArray⟩) (.slice na ns.length ncp) wx ∧ Below w.heap.size w wx ∧ xb + 1 ≤ wx.heap.size)
    case first =>
      go_upto_region 4 with fail
      refine text_reg4 (by kernel_rfl) hX2 hk ?_
      intro u26 u27 u28 u29 u30 w3 hb3
      have hX3 := hX2.below hb3
      have hB3 := below_trans hB2 hb3
      have hs3 := hb3.size
      have HO3 := Lib.hid (ownsRow_below HO2.out hb3)
      clear hX2 hB2 hb3 HO2
      cases hnb : namedB k with
      | false =>
        go_wp2_with fail
        go_meet
        refine ⟨?_, hX3, hB3, by omega⟩
        unfold Hid headW
        simp only [hnb]
        exact HO3.out
      | true =>
        obtain ⟨q0, q1, q2, q3⟩ := id hX3
        obtain ⟨A, hA⟩ : ∃ A : ByteArray, (⟨nm.toArray⟩ : ByteArray) = A := ⟨_, rfl⟩
        have HA := Lib.hid hA
        rw [hA] at q2
        clear hA
        go_wp2_with ((at_builtin; refine wpList_append_lies _ (by rfl) _ _ _ (by rfl) (xb + 1) 9 i0 _ 1 16 Tryz.underlying22 hi hz0 hz1 hz2 rfl (by omega) (.slice (some ⟨nb, 0, none⟩) 3 3) 3 _ (by rfl) (World.ownsRow.alloc HO3.out _) ⟨w3.heap.size, 0, none⟩ 1 1 [.string A] (by rfl) (by rfl) (World.news_of_block (cs := #[.string A]) (t := 9) (fr := (0, 0)) (alloc_new w3 _)) (by simp [Value.oneCell']) (by omega) (by unfold maxLen; omega) (by omega) (by simp; omega) (w3.heap.size + 1) (by simp) ?_))
        intro g7 cap7 w7 hown7 hgrow hat hlt7
        have hn0 := rows_ne HO3.out (b := xb) (Nat.lt_succ_self _)
        have hba : Below w3.heap.size w3 (w3.alloc (.cells #[.string A] 9)) := balloc (Below.refl _ _) _
        have hX7 := (hX3.below hba).grown hgrow hn0
        have hB7 : Below w.heap.size w w7 := grow_below (balloc hB3 _) hgrow (fun x hx => by have := (HO3.out.lt x hx).1; omega)
        have hs7 : xb + 1 ≤ w7.heap.size := by have h1 := hgrow.size; have h2 := hba.size; omega
        clear hat
        go_wp2_with fail
        go_meet
        refine ⟨?_, hX7, hB7, hs7⟩
        unfold Hid headW
        simp only [hnb, if_true]
        have e : (encB nm) = Value.string A := by rw [← HA.out]; rfl
        simp only [List.map_cons, List.map_nil, List.length_cons, List.length_nil, e]
        exact hown7
    case rest =>
      obtain ⟨HO, hX, hB, hs⟩ := hcut
      refine ‹∀ (a : Act) (w : World), Code.wp Tryz.prog _ _ a w → _› _ _ ?_
      exact text_tail (x := ⟨at_, k, nm, ns⟩) (by kernel_rfl) HT.out hX HN.out hNl HNI.out hnl ha ⟨by show 1 ≤ k; omega, by show k ≤ 17; omega⟩ (by omega) hs (Nat.lt_succ_self _) HO.out hB
end Go.Proofs.YtkjajpfgdjfcoaaGreatDoor
