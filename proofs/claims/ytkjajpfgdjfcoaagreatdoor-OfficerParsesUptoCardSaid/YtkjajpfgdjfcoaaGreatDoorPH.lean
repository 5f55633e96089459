/- Walks: the document's Text, the equality of lines, the laws OfficerParses and OfficerLines. -/
import Derived.Test.YtkjajpfgdjfcoaaGreatDoorPF
import Derived.Test.YtkjajpfgdjfcoaaGreatDoorPD
import Derived.Test.YtkjajpfgdjfcoaaGreatDoorPG
set_option linter.unusedVariables false
set_option linter.unusedSimpArgs false
namespace Go.Proofs.YtkjajpfgdjfcoaaGreatDoor
open Go.RowKit
/-- beside the document's words -/
structure XR (b t : Nat) (x0 x1 x2 x3 : Value) (w : World) : Prop where
  s : XB b x0 x1 x2 x3 w
  v : RVerbsAt w t
def rbadB (at_ v : Int) (l : Nat) : Bool := outI at_ 0 100000 || (outI v 1 17 || decide (l ≠ manyN v.toNat))
section
variable {xb L nc : Nat} {at_ v : Int} {nm : ByteArray} {na : Option Addr}
set_option maxRecDepth 100000 in
set_option maxHeartbeats 4000000 in
theorem rtext_reg1 {c : Code} (hc : c = rgOf Tryz.f16 1) {wc : World} {Q : Exit → Act → World → Prop}
  (hS : XB xb (.int .i64 at_) (.int .i64 v) (.string nm) (.slice na L nc) wc)
  {v0 v2 v3 v4 v5 v6 v7 v8 v9 v10 v11 v12 v13 v14 v15 v16 v17 v18 v19 v20 v21 v22 v23 v24 v25 v26 v27 v28 v29 v30 v31 v32 v33 v34 v35 v36 v37 v38 v39 v40 v41 v42 v43 v44 v45 v46 v47 v48 v49 v50 v51 v52 v53 v54 v55 v56 v57 v58 v59 v60 v61 v62 v63 v64 v65 v66 v67 v68 v69 v70 v71 v72 v73 v74 v75 v76 v77 v78 v79 v80 v81 v82 v83 v84 v85 v86 v87 v88 v89 v90 v91 v92 v93 : Value}
  (hK : ∀ (u6 u7 u8 u9 u10 u11 u12 u13 u14 u15 u16 u17 u18 u19 u20 u21 u22 u23 u24 u25 u26 : Value) (w' : World), Below wc.heap.size wc w' →
    Q Exit.normal { tmps := #[v0, .pointer (some ⟨xb, 0, none⟩), v2, v3, v4, v5, u6, u7, u8, u9, u10, u11, u12, u13, u14, u15, u16, u17, u18, u19, u20, u21, u22, u23, u24, u25, u26, .bool (rbadB at_ v L), v28, v29, v30, v31, v32, v33, v34, v35, v36, v37, v38, v39, v40, v41, v42, v43, v44, v45, v46, v47, v48, v49, v50, v51, v52, v53, v54, v55, v56, v57, v58, v59, v60, v61, v62, v63, v64, v65, v66, v67, v68, v69, v70, v71, v72, v73, v74, v75, v76, v77, v78, v79, v80, v81, v82, v83, v84, v85, v86, v87, v88, v89, v90, v91, v92, v93], defers := [] } w') :
  Code.wp Tryz.prog c Q { tmps := #[v0, .pointer (some ⟨xb, 0, none⟩), v2, v3, v4, v5, v6, v7, v8, v9, v10, v11, v12, v13, v14, v15, v16, v17, v18, v19, v20, v21, v22, v23, v24, v25, v26, v27, v28, v29, v30, v31, v32, v33, v34, v35, v36, v37, v38, v39, v40, v41, v42, v43, v44, v45, v46, v47, v48, v49, v50, v51, v52, v53, v54, v55, v56, v57, v58, v59, v60, v61, v62, v63, v64, v65, v66, v67, v68, v69, v70, v71, v72, v73, v74, v75, v76, v77, v78, v79, v80, v81, v82, v83, v84, v85, v86, v87, v88, v89, v90, v91, v92, v93], defers := [] } wc := by
  subst hc
  conv => arg 2; whnf
  have HKK := Lib.hid hK
  clear hK
  have hB : Below wc.heap.size wc wc.drew := (Below.refl _ _).drew
  have hH : XB xb (.int .i64 at_) (.int .i64 v) (.string nm) (.slice na L nc) wc.drew := hS.below hB
  clear hS
  refine wp_region_noPanic ?_
  refine wp_region_held_drew (S := XB xb (.int .i64 at_) (.int .i64 v) (.string nm) (.slice na L nc)) (by kernel_rfl) hH (fun _ => ?_)
  first | (refine wpAnyH_take (i := 0) (v := ?_) rfl (by kernel_rfl) (by kernel_rfl) (by kernel_rfl) (fun _ _ _ h => h) (Or.inl ⟨by rfl, ?_⟩) hH ?_; rotate_left; (focus (intro w' hSw; obtain ⟨z0, z1, z2, z3⟩ := hSw; (try have s0 := zv.at_ hk); go_simp; (try rw [if_neg (by omega)]); (try with_reducible rfl); done)); (try simp only [Act.put, List.setIfInBounds_toArray, List.set_cons_zero, List.set_cons_succ, List.getElem_toArray, List.getElem_cons_succ, List.getElem_cons_zero])) | (refine wpAnyH_take (i := 0) (v := undef) rfl (by kernel_rfl) (by kernel_rfl) (by kernel_rfl) (fun _ _ _ h => h) (Or.inr ⟨by rfl, rfl⟩) hH ?_; (try simp only [Act.put, List.setIfInBounds_toArray, List.set_cons_zero, List.set_cons_succ, List.getElem_toArray, List.getElem_cons_succ, List.getElem_cons_zero]))
  first | (refine wpAnyH_take (i := 1) (v := ?_) rfl (by kernel_rfl) (by kernel_rfl) (by kernel_rfl) (fun _ _ _ h => h) (Or.inl ⟨by rfl, ?_⟩) hH ?_; rotate_left; (focus (intro w' hSw; obtain ⟨z0, z1, z2, z3⟩ := hSw; (try have s0 := zv.at_ hk); go_simp; (try rw [if_neg (by omega)]); (try with_reducible rfl); done)); (try simp only [Act.put, List.setIfInBounds_toArray, List.set_cons_zero, List.set_cons_succ, List.getElem_toArray, List.getElem_cons_succ, List.getElem_cons_zero])) | (refine wpAnyH_take (i := 1) (v := undef) rfl (by kernel_rfl) (by kernel_rfl) (by kernel_rfl) (fun _ _ _ h => h) (Or.inr ⟨by rfl, rfl⟩) hH ?_; (try simp only [Act.put, List.setIfInBounds_toArray, List.set_cons_zero, List.set_cons_succ, List.getElem_toArray, List.getElem_cons_succ, List.getElem_cons_zero]))
  refine wpAnyH_ready (rs := [2]) (by kernel_rfl) (by simp) (AllReadyH.cons rfl (fun K' hK' => ?_) AllReadyH.nil)
  go_simp
  refine (rin_any _ _ _ _).mono ?_
  rintro e w' ⟨rfl, rfl⟩
  (try dsimp only)
  skip
  refine hK'.out _ _ hH (fun _ => ?_)
  clear hK' K'
  (try simp only [Act.put, List.setIfInBounds_toArray, List.set_cons_zero, List.set_cons_succ, List.getElem_toArray, List.getElem_cons_succ, List.getElem_cons_zero])
  first | (refine wpAnyH_take (i := 3) (v := ?_) rfl (by kernel_rfl) (by kernel_rfl) (by kernel_rfl) (fun _ _ _ h => h) (Or.inl ⟨by rfl, ?_⟩) hH ?_; rotate_left; (focus (intro w' hSw; obtain ⟨z0, z1, z2, z3⟩ := hSw; (try have s0 := zv.at_ hk); go_simp; (try rw [if_neg (by omega)]); (try with_reducible rfl); done)); (try simp only [Act.put, List.setIfInBounds_toArray, List.set_cons_zero, List.set_cons_succ, List.getElem_toArray, List.getElem_cons_succ, List.getElem_cons_zero])) | (refine wpAnyH_take (i := 3) (v := undef) rfl (by kernel_rfl) (by kernel_rfl) (by kernel_rfl) (fun _ _ _ h => h) (Or.inr ⟨by rfl, rfl⟩) hH ?_; (try simp only [Act.put, List.setIfInBounds_toArray, List.set_cons_zero, List.set_cons_succ, List.getElem_toArray, List.getElem_cons_succ, List.getElem_cons_zero]))
  first | (refine wpAnyH_take (i := 4) (v := ?_) rfl (by kernel_rfl) (by kernel_rfl) (by kernel_rfl) (fun _ _ _ h => h) (Or.inl ⟨by rfl, ?_⟩) hH ?_; rotate_left; (focus (intro w' hSw; obtain ⟨z0, z1, z2, z3⟩ := hSw; (try have s0 := zv.at_ hk); go_simp; (try rw [if_neg (by omega)]); (try with_reducible rfl); done)); (try simp only [Act.put, List.setIfInBounds_toArray, List.set_cons_zero, List.set_cons_succ, List.getElem_toArray, List.getElem_cons_succ, List.getElem_cons_zero])) | (refine wpAnyH_take (i := 4) (v := undef) rfl (by kernel_rfl) (by kernel_rfl) (by kernel_rfl) (fun _ _ _ h => h) (Or.inr ⟨by rfl, rfl⟩) hH ?_; (try simp only [Act.put, List.setIfInBounds_toArray, List.set_cons_zero, List.set_cons_succ, List.getElem_toArray, List.getElem_cons_succ, List.getElem_cons_zero]))
  cases ha : outI at_ 0 100000 with
  | true =>
    have HR : Hid (rbadB at_ v L = true) := by unfold Hid rbadB; rw [ha]; rfl
    first | (refine wpAnyH_take (i := 5) (v := ?_) rfl (by kernel_rfl) (by kernel_rfl) (by kernel_rfl) (fun _ _ _ h => h) (Or.inl ⟨by rfl, ?_⟩) hH ?_; rotate_left; (focus (intro w' hSw; obtain ⟨z0, z1, z2, z3⟩ := hSw; (try have s0 := zv.at_ hk); go_simp; (try rw [if_neg (by omega)]); (try with_reducible rfl); done)); (try simp only [Act.put, List.setIfInBounds_toArray, List.set_cons_zero, List.set_cons_succ, List.getElem_toArray, List.getElem_cons_succ, List.getElem_cons_zero])) | (refine wpAnyH_take (i := 5) (v := undef) rfl (by kernel_rfl) (by kernel_rfl) (by kernel_rfl) (fun _ _ _ h => h) (Or.inr ⟨by rfl, rfl⟩) hH ?_; (try simp only [Act.put, List.setIfInBounds_toArray, List.set_cons_zero, List.set_cons_succ, List.getElem_toArray, List.getElem_cons_succ, List.getElem_cons_zero]))
    first | (refine wpAnyH_take (i := 6) (v := ?_) rfl (by kernel_rfl) (by kernel_rfl) (by kernel_rfl) (fun _ _ _ h => h) (Or.inl ⟨by rfl, ?_⟩) hH ?_; rotate_left; (focus (intro w' hSw; obtain ⟨z0, z1, z2, z3⟩ := hSw; (try have s0 := zv.at_ hk); go_simp; (try rw [if_neg (by omega)]); (try with_reducible rfl); done)); (try simp only [Act.put, List.setIfInBounds_toArray, List.set_cons_zero, List.set_cons_succ, List.getElem_toArray, List.getElem_cons_succ, List.getElem_cons_zero])) | (refine wpAnyH_take (i := 6) (v := undef) rfl (by kernel_rfl) (by kernel_rfl) (by kernel_rfl) (fun _ _ _ h => h) (Or.inr ⟨by rfl, rfl⟩) hH ?_; (try simp only [Act.put, List.setIfInBounds_toArray, List.set_cons_zero, List.set_cons_succ, List.getElem_toArray, List.getElem_cons_succ, List.getElem_cons_zero]))
    first | (refine wpAnyH_take (i := 7) (v := ?_) rfl (by kernel_rfl) (by kernel_rfl) (by kernel_rfl) (fun _ _ _ h => h) (Or.inl ⟨by rfl, ?_⟩) hH ?_; rotate_left; (focus (intro w' hSw; obtain ⟨z0, z1, z2, z3⟩ := hSw; (try have s0 := zv.at_ hk); go_simp; (try rw [if_neg (by omega)]); (try with_reducible rfl); done)); (try simp only [Act.put, List.setIfInBounds_toArray, List.set_cons_zero, List.set_cons_succ, List.getElem_toArray, List.getElem_cons_succ, List.getElem_cons_zero])) | (refine wpAnyH_take (i := 7) (v := undef) rfl (by kernel_rfl) (by kernel_rfl) (by kernel_rfl) (fun _ _ _ h => h) (Or.inr ⟨by rfl, rfl⟩) hH ?_; (try simp only [Act.put, List.setIfInBounds_toArray, List.set_cons_zero, List.set_cons_succ, List.getElem_toArray, List.getElem_cons_succ, List.getElem_cons_zero]))
    first | (refine wpAnyH_take (i := 8) (v := ?_) rfl (by kernel_rfl) (by kernel_rfl) (by kernel_rfl) (fun _ _ _ h => h) (Or.inl ⟨by rfl, ?_⟩) hH ?_; rotate_left; (focus (intro w' hSw; obtain ⟨z0, z1, z2, z3⟩ := hSw; (try have s0 := zv.at_ hk); go_simp; (try rw [if_neg (by omega)]); (try with_reducible rfl); done)); (try simp only [Act.put, List.setIfInBounds_toArray, List.set_cons_zero, List.set_cons_succ, List.getElem_toArray, List.getElem_cons_succ, List.getElem_cons_zero])) | (refine wpAnyH_take (i := 8) (v := undef) rfl (by kernel_rfl) (by kernel_rfl) (by kernel_rfl) (fun _ _ _ h => h) (Or.inr ⟨by rfl, rfl⟩) hH ?_; (try simp only [Act.put, List.setIfInBounds_toArray, List.set_cons_zero, List.set_cons_succ, List.getElem_toArray, List.getElem_cons_succ, List.getElem_cons_zero]))
    first | (refine wpAnyH_take (i := 9) (v := ?_) rfl (by kernel_rfl) (by kernel_rfl) (by kernel_rfl) (fun _ _ _ h => h) (Or.inl ⟨by rfl, ?_⟩) hH ?_; rotate_left; (focus (intro w' hSw; obtain ⟨z0, z1, z2, z3⟩ := hSw; (try have s0 := zv.at_ hk); go_simp; (try rw [if_neg (by omega)]); (try with_reducible rfl); done)); (try simp only [Act.put, List.setIfInBounds_toArray, List.set_cons_zero, List.set_cons_succ, List.getElem_toArray, List.getElem_cons_succ, List.getElem_cons_zero])) | (refine wpAnyH_take (i := 9) (v := undef) rfl (by kernel_rfl) (by kernel_rfl) (by kernel_rfl) (fun _ _ _ h => h) (Or.inr ⟨by rfl, rfl⟩) hH ?_; (try simp only [Act.put, List.setIfInBounds_toArray, List.set_cons_zero, List.set_cons_succ, List.getElem_toArray, List.getElem_cons_succ, List.getElem_cons_zero]))
    first | (refine wpAnyH_take (i := 10) (v := ?_) rfl (by kernel_rfl) (by kernel_rfl) (by kernel_rfl) (fun _ _ _ h => h) (Or.inl ⟨by rfl, ?_⟩) hH ?_; rotate_left; (focus (intro w' hSw; obtain ⟨z0, z1, z2, z3⟩ := hSw; (try have s0 := zv.at_ hk); go_simp; (try rw [if_neg (by omega)]); (try with_reducible rfl); done)); (try simp only [Act.put, List.setIfInBounds_toArray, List.set_cons_zero, List.set_cons_succ, List.getElem_toArray, List.getElem_cons_succ, List.getElem_cons_zero])) | (refine wpAnyH_take (i := 10) (v := undef) rfl (by kernel_rfl) (by kernel_rfl) (by kernel_rfl) (fun _ _ _ h => h) (Or.inr ⟨by rfl, rfl⟩) hH ?_; (try simp only [Act.put, List.setIfInBounds_toArray, List.set_cons_zero, List.set_cons_succ, List.getElem_toArray, List.getElem_cons_succ, List.getElem_cons_zero]))
    first | (refine wpAnyH_take (i := 11) (v := ?_) rfl (by kernel_rfl) (by kernel_rfl) (by kernel_rfl) (fun _ _ _ h => h) (Or.inl ⟨by rfl, ?_⟩) hH ?_; rotate_left; (focus (intro w' hSw; obtain ⟨z0, z1, z2, z3⟩ := hSw; (try have s0 := zv.at_ hk); go_simp; (try rw [if_neg (by omega)]); (try with_reducible rfl); done)); (try simp only [Act.put, List.setIfInBounds_toArray, List.set_cons_zero, List.set_cons_succ, List.getElem_toArray, List.getElem_cons_succ, List.getElem_cons_zero])) | (refine wpAnyH_take (i := 11) (v := undef) rfl (by kernel_rfl) (by kernel_rfl) (by kernel_rfl) (fun _ _ _ h => h) (Or.inr ⟨by rfl, rfl⟩) hH ?_; (try simp only [Act.put, List.setIfInBounds_toArray, List.set_cons_zero, List.set_cons_succ, List.getElem_toArray, List.getElem_cons_succ, List.getElem_cons_zero]))
    first | (refine wpAnyH_take (i := 12) (v := ?_) rfl (by kernel_rfl) (by kernel_rfl) (by kernel_rfl) (fun _ _ _ h => h) (Or.inl ⟨by rfl, ?_⟩) hH ?_; rotate_left; (focus (intro w' hSw; obtain ⟨z0, z1, z2, z3⟩ := hSw; (try have s0 := zv.at_ hk); go_simp; (try rw [if_neg (by omega)]); (try with_reducible rfl); done)); (try simp only [Act.put, List.setIfInBounds_toArray, List.set_cons_zero, List.set_cons_succ, List.getElem_toArray, List.getElem_cons_succ, List.getElem_cons_zero])) | (refine wpAnyH_take (i := 12) (v := undef) rfl (by kernel_rfl) (by kernel_rfl) (by kernel_rfl) (fun _ _ _ h => h) (Or.inr ⟨by rfl, rfl⟩) hH ?_; (try simp only [Act.put, List.setIfInBounds_toArray, List.set_cons_zero, List.set_cons_succ, List.getElem_toArray, List.getElem_cons_succ, List.getElem_cons_zero]))
    first | (refine wpAnyH_take (i := 13) (v := ?_) rfl (by kernel_rfl) (by kernel_rfl) (by kernel_rfl) (fun _ _ _ h => h) (Or.inl ⟨by rfl, ?_⟩) hH ?_; rotate_left; (focus (intro w' hSw; obtain ⟨z0, z1, z2, z3⟩ := hSw; (try have s0 := zv.at_ hk); go_simp; (try rw [if_neg (by omega)]); (try with_reducible rfl); done)); (try simp only [Act.put, List.setIfInBounds_toArray, List.set_cons_zero, List.set_cons_succ, List.getElem_toArray, List.getElem_cons_succ, List.getElem_cons_zero])) | (refine wpAnyH_take (i := 13) (v := undef) rfl (by kernel_rfl) (by kernel_rfl) (by kernel_rfl) (fun _ _ _ h => h) (Or.inr ⟨by rfl, rfl⟩) hH ?_; (try simp only [Act.put, List.setIfInBounds_toArray, List.set_cons_zero, List.set_cons_succ, List.getElem_toArray, List.getElem_cons_succ, List.getElem_cons_zero]))
    first | (refine wpAnyH_take (i := 14) (v := ?_) rfl (by kernel_rfl) (by kernel_rfl) (by kernel_rfl) (fun _ _ _ h => h) (Or.inl ⟨by rfl, ?_⟩) hH ?_; rotate_left; (focus (intro w' hSw; obtain ⟨z0, z1, z2, z3⟩ := hSw; (try have s0 := zv.at_ hk); go_simp; (try rw [if_neg (by omega)]); (try with_reducible rfl); done)); (try simp only [Act.put, List.setIfInBounds_toArray, List.set_cons_zero, List.set_cons_succ, List.getElem_toArray, List.getElem_cons_succ, List.getElem_cons_zero])) | (refine wpAnyH_take (i := 14) (v := undef) rfl (by kernel_rfl) (by kernel_rfl) (by kernel_rfl) (fun _ _ _ h => h) (Or.inr ⟨by rfl, rfl⟩) hH ?_; (try simp only [Act.put, List.setIfInBounds_toArray, List.set_cons_zero, List.set_cons_succ, List.getElem_toArray, List.getElem_cons_succ, List.getElem_cons_zero]))
    first | (refine wpAnyH_take (i := 15) (v := ?_) rfl (by kernel_rfl) (by kernel_rfl) (by kernel_rfl) (fun _ _ _ h => h) (Or.inl ⟨by rfl, ?_⟩) hH ?_; rotate_left; (focus (intro w' hSw; obtain ⟨z0, z1, z2, z3⟩ := hSw; (try have s0 := zv.at_ hk); go_simp; (try rw [if_neg (by omega)]); (try with_reducible rfl); done)); (try simp only [Act.put, List.setIfInBounds_toArray, List.set_cons_zero, List.set_cons_succ, List.getElem_toArray, List.getElem_cons_succ, List.getElem_cons_zero])) | (refine wpAnyH_take (i := 15) (v := undef) rfl (by kernel_rfl) (by kernel_rfl) (by kernel_rfl) (fun _ _ _ h => h) (Or.inr ⟨by rfl, rfl⟩) hH ?_; (try simp only [Act.put, List.setIfInBounds_toArray, List.set_cons_zero, List.set_cons_succ, List.getElem_toArray, List.getElem_cons_succ, List.getElem_cons_zero]))
    first | (refine wpAnyH_take (i := 16) (v := ?_) rfl (by kernel_rfl) (by kernel_rfl) (by kernel_rfl) (fun _ _ _ h => h) (Or.inl ⟨by rfl, ?_⟩) hH ?_; rotate_left; (focus (intro w' hSw; obtain ⟨z0, z1, z2, z3⟩ := hSw; (try have s0 := zv.at_ hk); go_simp; (try rw [if_neg (by omega)]); (try with_reducible rfl); done)); (try simp only [Act.put, List.setIfInBounds_toArray, List.set_cons_zero, List.set_cons_succ, List.getElem_toArray, List.getElem_cons_succ, List.getElem_cons_zero])) | (refine wpAnyH_take (i := 16) (v := undef) rfl (by kernel_rfl) (by kernel_rfl) (by kernel_rfl) (fun _ _ _ h => h) (Or.inr ⟨by rfl, rfl⟩) hH ?_; (try simp only [Act.put, List.setIfInBounds_toArray, List.set_cons_zero, List.set_cons_succ, List.getElem_toArray, List.getElem_cons_succ, List.getElem_cons_zero]))
    first | (refine wpAnyH_take (i := 17) (v := ?_) rfl (by kernel_rfl) (by kernel_rfl) (by kernel_rfl) (fun _ _ _ h => h) (Or.inl ⟨by rfl, ?_⟩) hH ?_; rotate_left; (focus (intro w' hSw; obtain ⟨z0, z1, z2, z3⟩ := hSw; (try have s0 := zv.at_ hk); go_simp; (try rw [if_neg (by omega)]); (try with_reducible rfl); done)); (try simp only [Act.put, List.setIfInBounds_toArray, List.set_cons_zero, List.set_cons_succ, List.getElem_toArray, List.getElem_cons_succ, List.getElem_cons_zero])) | (refine wpAnyH_take (i := 17) (v := undef) rfl (by kernel_rfl) (by kernel_rfl) (by kernel_rfl) (fun _ _ _ h => h) (Or.inr ⟨by rfl, rfl⟩) hH ?_; (try simp only [Act.put, List.setIfInBounds_toArray, List.set_cons_zero, List.set_cons_succ, List.getElem_toArray, List.getElem_cons_succ, List.getElem_cons_zero]))
    first | (refine wpAnyH_take (i := 18) (v := ?_) rfl (by kernel_rfl) (by kernel_rfl) (by kernel_rfl) (fun _ _ _ h => h) (Or.inl ⟨by rfl, ?_⟩) hH ?_; rotate_left; (focus (intro w' hSw; obtain ⟨z0, z1, z2, z3⟩ := hSw; (try have s0 := zv.at_ hk); go_simp; (try rw [if_neg (by omega)]); (try with_reducible rfl); done)); (try simp only [Act.put, List.setIfInBounds_toArray, List.set_cons_zero, List.set_cons_succ, List.getElem_toArray, List.getElem_cons_succ, List.getElem_cons_zero])) | (refine wpAnyH_take (i := 18) (v := undef) rfl (by kernel_rfl) (by kernel_rfl) (by kernel_rfl) (fun _ _ _ h => h) (Or.inr ⟨by rfl, rfl⟩) hH ?_; (try simp only [Act.put, List.setIfInBounds_toArray, List.set_cons_zero, List.set_cons_succ, List.getElem_toArray, List.getElem_cons_succ, List.getElem_cons_zero]))
    first | (refine wpAnyH_take (i := 19) (v := ?_) rfl (by kernel_rfl) (by kernel_rfl) (by kernel_rfl) (fun _ _ _ h => h) (Or.inl ⟨by rfl, ?_⟩) hH ?_; rotate_left; (focus (intro w' hSw; obtain ⟨z0, z1, z2, z3⟩ := hSw; (try have s0 := zv.at_ hk); go_simp; (try rw [if_neg (by omega)]); (try with_reducible rfl); done)); (try simp only [Act.put, List.setIfInBounds_toArray, List.set_cons_zero, List.set_cons_succ, List.getElem_toArray, List.getElem_cons_succ, List.getElem_cons_zero])) | (refine wpAnyH_take (i := 19) (v := undef) rfl (by kernel_rfl) (by kernel_rfl) (by kernel_rfl) (fun _ _ _ h => h) (Or.inr ⟨by rfl, rfl⟩) hH ?_; (try simp only [Act.put, List.setIfInBounds_toArray, List.set_cons_zero, List.set_cons_succ, List.getElem_toArray, List.getElem_cons_succ, List.getElem_cons_zero]))
    first | (refine wpAnyH_take (i := 20) (v := ?_) rfl (by kernel_rfl) (by kernel_rfl) (by kernel_rfl) (fun _ _ _ h => h) (Or.inl ⟨by rfl, ?_⟩) hH ?_; rotate_left; (focus (intro w' hSw; obtain ⟨z0, z1, z2, z3⟩ := hSw; (try have s0 := zv.at_ hk); go_simp; (try rw [if_neg (by omega)]); (try with_reducible rfl); done)); (try simp only [Act.put, List.setIfInBounds_toArray, List.set_cons_zero, List.set_cons_succ, List.getElem_toArray, List.getElem_cons_succ, List.getElem_cons_zero])) | (refine wpAnyH_take (i := 20) (v := undef) rfl (by kernel_rfl) (by kernel_rfl) (by kernel_rfl) (fun _ _ _ h => h) (Or.inr ⟨by rfl, rfl⟩) hH ?_; (try simp only [Act.put, List.setIfInBounds_toArray, List.set_cons_zero, List.set_cons_succ, List.getElem_toArray, List.getElem_cons_succ, List.getElem_cons_zero]))
    first | (refine wpAnyH_take (i := 21) (v := ?_) rfl (by kernel_rfl) (by kernel_rfl) (by kernel_rfl) (fun _ _ _ h => h) (Or.inl ⟨by rfl, ?_⟩) hH ?_; rotate_left; (focus (intro w' hSw; obtain ⟨z0, z1, z2, z3⟩ := hSw; (try have s0 := zv.at_ hk); go_simp; (try rw [if_neg (by omega)]); (try with_reducible rfl); done)); (try simp only [Act.put, List.setIfInBounds_toArray, List.set_cons_zero, List.set_cons_succ, List.getElem_toArray, List.getElem_cons_succ, List.getElem_cons_zero])) | (refine wpAnyH_take (i := 21) (v := undef) rfl (by kernel_rfl) (by kernel_rfl) (by kernel_rfl) (fun _ _ _ h => h) (Or.inr ⟨by rfl, rfl⟩) hH ?_; (try simp only [Act.put, List.setIfInBounds_toArray, List.set_cons_zero, List.set_cons_succ, List.getElem_toArray, List.getElem_cons_succ, List.getElem_cons_zero]))
    refine wpAnyH_done (by kernel_rfl) (NoPanic.normal ?_) _
    (try simp only [Act.put, List.setIfInBounds_toArray, List.set_cons_zero, List.set_cons_succ, List.getElem_toArray, List.getElem_cons_succ, List.getElem_cons_zero])
    rw [← HR.out]
    exact HKK.out _ _ _ _ _ _ _ _ _ _ _ _ _ _ _ _ _ _ _ _ _ _ hB
  | false =>
    first | (refine wpAnyH_take (i := 5) (v := ?_) rfl (by kernel_rfl) (by kernel_rfl) (by kernel_rfl) (fun _ _ _ h => h) (Or.inl ⟨by rfl, ?_⟩) hH ?_; rotate_left; (focus (intro w' hSw; obtain ⟨z0, z1, z2, z3⟩ := hSw; (try have s0 := zv.at_ hk); go_simp; (try rw [if_neg (by omega)]); (try with_reducible rfl); done)); (try simp only [Act.put, List.setIfInBounds_toArray, List.set_cons_zero, List.set_cons_succ, List.getElem_toArray, List.getElem_cons_succ, List.getElem_cons_zero])) | (refine wpAnyH_take (i := 5) (v := undef) rfl (by kernel_rfl) (by kernel_rfl) (by kernel_rfl) (fun _ _ _ h => h) (Or.inr ⟨by rfl, rfl⟩) hH ?_; (try simp only [Act.put, List.setIfInBounds_toArray, List.set_cons_zero, List.set_cons_succ, List.getElem_toArray, List.getElem_cons_succ, List.getElem_cons_zero]))
    first | (refine wpAnyH_take (i := 6) (v := ?_) rfl (by kernel_rfl) (by kernel_rfl) (by kernel_rfl) (fun _ _ _ h => h) (Or.inl ⟨by rfl, ?_⟩) hH ?_; rotate_left; (focus (intro w' hSw; obtain ⟨z0, z1, z2, z3⟩ := hSw; (try have s0 := zv.at_ hk); go_simp; (try rw [if_neg (by omega)]); (try with_reducible rfl); done)); (try simp only [Act.put, List.setIfInBounds_toArray, List.set_cons_zero, List.set_cons_succ, List.getElem_toArray, List.getElem_cons_succ, List.getElem_cons_zero])) | (refine wpAnyH_take (i := 6) (v := undef) rfl (by kernel_rfl) (by kernel_rfl) (by kernel_rfl) (fun _ _ _ h => h) (Or.inr ⟨by rfl, rfl⟩) hH ?_; (try simp only [Act.put, List.setIfInBounds_toArray, List.set_cons_zero, List.set_cons_succ, List.getElem_toArray, List.getElem_cons_succ, List.getElem_cons_zero]))
    refine wpAnyH_ready (rs := [7]) (by kernel_rfl) (by simp) (AllReadyH.cons rfl (fun K' hK' => ?_) AllReadyH.nil)
    go_simp
    refine (rverbs_any _).mono ?_
    rintro e w1 ⟨rfl, hw1⟩
    (try dsimp only)
    have hb1 : Below wc.drew.heap.size wc.drew w1 := by rw [hw1]; exact balloc (Below.refl _ _) _
    have hB1 := below_trans hB hb1
    have hH1 := hH.below hb1
    clear hw1 hb1
    refine hK'.out _ _ hH1 (fun _ => ?_)
    clear hK' K'
    (try simp only [Act.put, List.setIfInBounds_toArray, List.set_cons_zero, List.set_cons_succ, List.getElem_toArray, List.getElem_cons_succ, List.getElem_cons_zero])
    first | (refine wpAnyH_take (i := 8) (v := ?_) rfl (by kernel_rfl) (by kernel_rfl) (by kernel_rfl) (fun _ _ _ h => h) (Or.inl ⟨by rfl, ?_⟩) hH1 ?_; rotate_left; (focus (intro w' hSw; obtain ⟨z0, z1, z2, z3⟩ := hSw; (try have s0 := zv.at_ hk); go_simp; (try rw [if_neg (by omega)]); (try with_reducible rfl); done)); (try simp only [Act.put, List.setIfInBounds_toArray, List.set_cons_zero, List.set_cons_succ, List.getElem_toArray, List.getElem_cons_succ, List.getElem_cons_zero])) | (refine wpAnyH_take (i := 8) (v := undef) rfl (by kernel_rfl) (by kernel_rfl) (by kernel_rfl) (fun _ _ _ h => h) (Or.inr ⟨by rfl, rfl⟩) hH1 ?_; (try simp only [Act.put, List.setIfInBounds_toArray, List.set_cons_zero, List.set_cons_succ, List.getElem_toArray, List.getElem_cons_succ, List.getElem_cons_zero]))
    first | (refine wpAnyH_take (i := 9) (v := ?_) rfl (by kernel_rfl) (by kernel_rfl) (by kernel_rfl) (fun _ _ _ h => h) (Or.inl ⟨by rfl, ?_⟩) hH1 ?_; rotate_left; (focus (intro w' hSw; obtain ⟨z0, z1, z2, z3⟩ := hSw; (try have s0 := zv.at_ hk); go_simp; (try rw [if_neg (by omega)]); (try with_reducible rfl); done)); (try simp only [Act.put, List.setIfInBounds_toArray, List.set_cons_zero, List.set_cons_succ, List.getElem_toArray, List.getElem_cons_succ, List.getElem_cons_zero])) | (refine wpAnyH_take (i := 9) (v := undef) rfl (by kernel_rfl) (by kernel_rfl) (by kernel_rfl) (fun _ _ _ h => h) (Or.inr ⟨by rfl, rfl⟩) hH1 ?_; (try simp only [Act.put, List.setIfInBounds_toArray, List.set_cons_zero, List.set_cons_succ, List.getElem_toArray, List.getElem_cons_succ, List.getElem_cons_zero]))
    refine wpAnyH_ready (rs := [10]) (by kernel_rfl) (by simp) (AllReadyH.cons rfl (fun K' hK' => ?_) AllReadyH.nil)
    go_simp
    refine (rin_any _ _ _ _).mono ?_
    rintro e w' ⟨rfl, rfl⟩
    (try dsimp only)
    skip
    refine hK'.out _ _ hH1 (fun _ => ?_)
    clear hK' K'
    (try simp only [Act.put, List.setIfInBounds_toArray, List.set_cons_zero, List.set_cons_succ, List.getElem_toArray, List.getElem_cons_succ, List.getElem_cons_zero])
    cases hv : outI v 1 (IntKind.i64.wrap 17) with
    | true =>
      have hv : outI v 1 17 = true := hv
      have HR : Hid (rbadB at_ v L = true) := by unfold Hid rbadB; rw [ha, hv]; rfl
      first | (refine wpAnyH_take (i := 11) (v := ?_) rfl (by kernel_rfl) (by kernel_rfl) (by kernel_rfl) (fun _ _ _ h => h) (Or.inl ⟨by rfl, ?_⟩) hH1 ?_; rotate_left; (focus (intro w' hSw; obtain ⟨z0, z1, z2, z3⟩ := hSw; (try have s0 := zv.at_ hk); go_simp; (try rw [if_neg (by omega)]); (try with_reducible rfl); done)); (try simp only [Act.put, List.setIfInBounds_toArray, List.set_cons_zero, List.set_cons_succ, List.getElem_toArray, List.getElem_cons_succ, List.getElem_cons_zero])) | (refine wpAnyH_take (i := 11) (v := undef) rfl (by kernel_rfl) (by kernel_rfl) (by kernel_rfl) (fun _ _ _ h => h) (Or.inr ⟨by rfl, rfl⟩) hH1 ?_; (try simp only [Act.put, List.setIfInBounds_toArray, List.set_cons_zero, List.set_cons_succ, List.getElem_toArray, List.getElem_cons_succ, List.getElem_cons_zero]))
      first | (refine wpAnyH_take (i := 12) (v := ?_) rfl (by kernel_rfl) (by kernel_rfl) (by kernel_rfl) (fun _ _ _ h => h) (Or.inl ⟨by rfl, ?_⟩) hH1 ?_; rotate_left; (focus (intro w' hSw; obtain ⟨z0, z1, z2, z3⟩ := hSw; (try have s0 := zv.at_ hk); go_simp; (try rw [if_neg (by omega)]); (try with_reducible rfl); done)); (try simp only [Act.put, List.setIfInBounds_toArray, List.set_cons_zero, List.set_cons_succ, List.getElem_toArray, List.getElem_cons_succ, List.getElem_cons_zero])) | (refine wpAnyH_take (i := 12) (v := undef) rfl (by kernel_rfl) (by kernel_rfl) (by kernel_rfl) (fun _ _ _ h => h) (Or.inr ⟨by rfl, rfl⟩) hH1 ?_; (try simp only [Act.put, List.setIfInBounds_toArray, List.set_cons_zero, List.set_cons_succ, List.getElem_toArray, List.getElem_cons_succ, List.getElem_cons_zero]))
      first | (refine wpAnyH_take (i := 13) (v := ?_) rfl (by kernel_rfl) (by kernel_rfl) (by kernel_rfl) (fun _ _ _ h => h) (Or.inl ⟨by rfl, ?_⟩) hH1 ?_; rotate_left; (focus (intro w' hSw; obtain ⟨z0, z1, z2, z3⟩ := hSw; (try have s0 := zv.at_ hk); go_simp; (try rw [if_neg (by omega)]); (try with_reducible rfl); done)); (try simp only [Act.put, List.setIfInBounds_toArray, List.set_cons_zero, List.set_cons_succ, List.getElem_toArray, List.getElem_cons_succ, List.getElem_cons_zero])) | (refine wpAnyH_take (i := 13) (v := undef) rfl (by kernel_rfl) (by kernel_rfl) (by kernel_rfl) (fun _ _ _ h => h) (Or.inr ⟨by rfl, rfl⟩) hH1 ?_; (try simp only [Act.put, List.setIfInBounds_toArray, List.set_cons_zero, List.set_cons_succ, List.getElem_toArray, List.getElem_cons_succ, List.getElem_cons_zero]))
      first | (refine wpAnyH_take (i := 14) (v := ?_) rfl (by kernel_rfl) (by kernel_rfl) (by kernel_rfl) (fun _ _ _ h => h) (Or.inl ⟨by rfl, ?_⟩) hH1 ?_; rotate_left; (focus (intro w' hSw; obtain ⟨z0, z1, z2, z3⟩ := hSw; (try have s0 := zv.at_ hk); go_simp; (try rw [if_neg (by omega)]); (try with_reducible rfl); done)); (try simp only [Act.put, List.setIfInBounds_toArray, List.set_cons_zero, List.set_cons_succ, List.getElem_toArray, List.getElem_cons_succ, List.getElem_cons_zero])) | (refine wpAnyH_take (i := 14) (v := undef) rfl (by kernel_rfl) (by kernel_rfl) (by kernel_rfl) (fun _ _ _ h => h) (Or.inr ⟨by rfl, rfl⟩) hH1 ?_; (try simp only [Act.put, List.setIfInBounds_toArray, List.set_cons_zero, List.set_cons_succ, List.getElem_toArray, List.getElem_cons_succ, List.getElem_cons_zero]))
      first | (refine wpAnyH_take (i := 15) (v := ?_) rfl (by kernel_rfl) (by kernel_rfl) (by kernel_rfl) (fun _ _ _ h => h) (Or.inl ⟨by rfl, ?_⟩) hH1 ?_; rotate_left; (focus (intro w' hSw; obtain ⟨z0, z1, z2, z3⟩ := hSw; (try have s0 := zv.at_ hk); go_simp; (try rw [if_neg (by omega)]); (try with_reducible rfl); done)); (try simp only [Act.put, List.setIfInBounds_toArray, List.set_cons_zero, List.set_cons_succ, List.getElem_toArray, List.getElem_cons_succ, List.getElem_cons_zero])) | (refine wpAnyH_take (i := 15) (v := undef) rfl (by kernel_rfl) (by kernel_rfl) (by kernel_rfl) (fun _ _ _ h => h) (Or.inr ⟨by rfl, rfl⟩) hH1 ?_; (try simp only [Act.put, List.setIfInBounds_toArray, List.set_cons_zero, List.set_cons_succ, List.getElem_toArray, List.getElem_cons_succ, List.getElem_cons_zero]))
      first | (refine wpAnyH_take (i := 16) (v := ?_) rfl (by kernel_rfl) (by kernel_rfl) (by kernel_rfl) (fun _ _ _ h => h) (Or.inl ⟨by rfl, ?_⟩) hH1 ?_; rotate_left; (focus (intro w' hSw; obtain ⟨z0, z1, z2, z3⟩ := hSw; (try have s0 := zv.at_ hk); go_simp; (try rw [if_neg (by omega)]); (try with_reducible rfl); done)); (try simp only [Act.put, List.setIfInBounds_toArray, List.set_cons_zero, List.set_cons_succ, List.getElem_toArray, List.getElem_cons_succ, List.getElem_cons_zero])) | (refine wpAnyH_take (i := 16) (v := undef) rfl (by kernel_rfl) (by kernel_rfl) (by kernel_rfl) (fun _ _ _ h => h) (Or.inr ⟨by rfl, rfl⟩) hH1 ?_; (try simp only [Act.put, List.setIfInBounds_toArray, List.set_cons_zero, List.set_cons_succ, List.getElem_toArray, List.getElem_cons_succ, List.getElem_cons_zero]))
      first | (refine wpAnyH_take (i := 17) (v := ?_) rfl (by kernel_rfl) (by kernel_rfl) (by kernel_rfl) (fun _ _ _ h => h) (Or.inl ⟨by rfl, ?_⟩) hH1 ?_; rotate_left; (focus (intro w' hSw; obtain ⟨z0, z1, z2, z3⟩ := hSw; (try have s0 := zv.at_ hk); go_simp; (try rw [if_neg (by omega)]); (try with_reducible rfl); done)); (try simp only [Act.put, List.setIfInBounds_toArray, List.set_cons_zero, List.set_cons_succ, List.getElem_toArray, List.getElem_cons_succ, List.getElem_cons_zero])) | (refine wpAnyH_take (i := 17) (v := undef) rfl (by kernel_rfl) (by kernel_rfl) (by kernel_rfl) (fun _ _ _ h => h) (Or.inr ⟨by rfl, rfl⟩) hH1 ?_; (try simp only [Act.put, List.setIfInBounds_toArray, List.set_cons_zero, List.set_cons_succ, List.getElem_toArray, List.getElem_cons_succ, List.getElem_cons_zero]))
      first | (refine wpAnyH_take (i := 18) (v := ?_) rfl (by kernel_rfl) (by kernel_rfl) (by kernel_rfl) (fun _ _ _ h => h) (Or.inl ⟨by rfl, ?_⟩) hH1 ?_; rotate_left; (focus (intro w' hSw; obtain ⟨z0, z1, z2, z3⟩ := hSw; (try have s0 := zv.at_ hk); go_simp; (try rw [if_neg (by omega)]); (try with_reducible rfl); done)); (try simp only [Act.put, List.setIfInBounds_toArray, List.set_cons_zero, List.set_cons_succ, List.getElem_toArray, List.getElem_cons_succ, List.getElem_cons_zero])) | (refine wpAnyH_take (i := 18) (v := undef) rfl (by kernel_rfl) (by kernel_rfl) (by kernel_rfl) (fun _ _ _ h => h) (Or.inr ⟨by rfl, rfl⟩) hH1 ?_; (try simp only [Act.put, List.setIfInBounds_toArray, List.set_cons_zero, List.set_cons_succ, List.getElem_toArray, List.getElem_cons_succ, List.getElem_cons_zero]))
      first | (refine wpAnyH_take (i := 19) (v := ?_) rfl (by kernel_rfl) (by kernel_rfl) (by kernel_rfl) (fun _ _ _ h => h) (Or.inl ⟨by rfl, ?_⟩) hH1 ?_; rotate_left; (focus (intro w' hSw; obtain ⟨z0, z1, z2, z3⟩ := hSw; (try have s0 := zv.at_ hk); go_simp; (try rw [if_neg (by omega)]); (try with_reducible rfl); done)); (try simp only [Act.put, List.setIfInBounds_toArray, List.set_cons_zero, List.set_cons_succ, List.getElem_toArray, List.getElem_cons_succ, List.getElem_cons_zero])) | (refine wpAnyH_take (i := 19) (v := undef) rfl (by kernel_rfl) (by kernel_rfl) (by kernel_rfl) (fun _ _ _ h => h) (Or.inr ⟨by rfl, rfl⟩) hH1 ?_; (try simp only [Act.put, List.setIfInBounds_toArray, List.set_cons_zero, List.set_cons_succ, List.getElem_toArray, List.getElem_cons_succ, List.getElem_cons_zero]))
      first | (refine wpAnyH_take (i := 20) (v := ?_) rfl (by kernel_rfl) (by kernel_rfl) (by kernel_rfl) (fun _ _ _ h => h) (Or.inl ⟨by rfl, ?_⟩) hH1 ?_; rotate_left; (focus (intro w' hSw; obtain ⟨z0, z1, z2, z3⟩ := hSw; (try have s0 := zv.at_ hk); go_simp; (try rw [if_neg (by omega)]); (try with_reducible rfl); done)); (try simp only [Act.put, List.setIfInBounds_toArray, List.set_cons_zero, List.set_cons_succ, List.getElem_toArray, List.getElem_cons_succ, List.getElem_cons_zero])) | (refine wpAnyH_take (i := 20) (v := undef) rfl (by kernel_rfl) (by kernel_rfl) (by kernel_rfl) (fun _ _ _ h => h) (Or.inr ⟨by rfl, rfl⟩) hH1 ?_; (try simp only [Act.put, List.setIfInBounds_toArray, List.set_cons_zero, List.set_cons_succ, List.getElem_toArray, List.getElem_cons_succ, List.getElem_cons_zero]))
      first | (refine wpAnyH_take (i := 21) (v := ?_) rfl (by kernel_rfl) (by kernel_rfl) (by kernel_rfl) (fun _ _ _ h => h) (Or.inl ⟨by rfl, ?_⟩) hH1 ?_; rotate_left; (focus (intro w' hSw; obtain ⟨z0, z1, z2, z3⟩ := hSw; (try have s0 := zv.at_ hk); go_simp; (try rw [if_neg (by omega)]); (try with_reducible rfl); done)); (try simp only [Act.put, List.setIfInBounds_toArray, List.set_cons_zero, List.set_cons_succ, List.getElem_toArray, List.getElem_cons_succ, List.getElem_cons_zero])) | (refine wpAnyH_take (i := 21) (v := undef) rfl (by kernel_rfl) (by kernel_rfl) (by kernel_rfl) (fun _ _ _ h => h) (Or.inr ⟨by rfl, rfl⟩) hH1 ?_; (try simp only [Act.put, List.setIfInBounds_toArray, List.set_cons_zero, List.set_cons_succ, List.getElem_toArray, List.getElem_cons_succ, List.getElem_cons_zero]))
      refine wpAnyH_done (by kernel_rfl) (NoPanic.normal ?_) _
      (try simp only [Act.put, List.setIfInBounds_toArray, List.set_cons_zero, List.set_cons_succ, List.getElem_toArray, List.getElem_cons_succ, List.getElem_cons_zero])
      rw [← HR.out]
      exact HKK.out _ _ _ _ _ _ _ _ _ _ _ _ _ _ _ _ _ _ _ _ _ _ hB1
    | false =>
      have hv : outI v 1 17 = false := hv
      obtain ⟨hv1, hv2⟩ := outI_false.1 hv
      obtain ⟨k, rfl⟩ : ∃ k : Nat, v = (k : Int) := ⟨v.toNat, by omega⟩
      have hk : k < 18 := by omega
      have HR : Hid (rbadB at_ (k : Nat) L = ((L : Int) != ((manyN k : Nat) : Int))) := by
        unfold Hid rbadB; rw [ha, hv]
        rw [show (((k : Nat) : Int)).toNat = k from rfl, Bool.eq_iff_iff]
        simp; omega
      first | (refine wpAnyH_take (i := 11) (v := ?_) rfl (by kernel_rfl) (by kernel_rfl) (by kernel_rfl) (fun _ _ _ h => h) (Or.inl ⟨by rfl, ?_⟩) hH1 ?_; rotate_left; (focus (intro w' hSw; obtain ⟨z0, z1, z2, z3⟩ := hSw; (try have s0 := zv.at_ hk); go_simp; (try rw [if_neg (by omega)]); (try with_reducible rfl); done)); (try simp only [Act.put, List.setIfInBounds_toArray, List.set_cons_zero, List.set_cons_succ, List.getElem_toArray, List.getElem_cons_succ, List.getElem_cons_zero])) | (refine wpAnyH_take (i := 11) (v := undef) rfl (by kernel_rfl) (by kernel_rfl) (by kernel_rfl) (fun _ _ _ h => h) (Or.inr ⟨by rfl, rfl⟩) hH1 ?_; (try simp only [Act.put, List.setIfInBounds_toArray, List.set_cons_zero, List.set_cons_succ, List.getElem_toArray, List.getElem_cons_succ, List.getElem_cons_zero]))
      first | (refine wpAnyH_take (i := 12) (v := ?_) rfl (by kernel_rfl) (by kernel_rfl) (by kernel_rfl) (fun _ _ _ h => h) (Or.inl ⟨by rfl, ?_⟩) hH1 ?_; rotate_left; (focus (intro w' hSw; obtain ⟨z0, z1, z2, z3⟩ := hSw; (try have s0 := zv.at_ hk); go_simp; (try rw [if_neg (by omega)]); (try with_reducible rfl); done)); (try simp only [Act.put, List.setIfInBounds_toArray, List.set_cons_zero, List.set_cons_succ, List.getElem_toArray, List.getElem_cons_succ, List.getElem_cons_zero])) | (refine wpAnyH_take (i := 12) (v := undef) rfl (by kernel_rfl) (by kernel_rfl) (by kernel_rfl) (fun _ _ _ h => h) (Or.inr ⟨by rfl, rfl⟩) hH1 ?_; (try simp only [Act.put, List.setIfInBounds_toArray, List.set_cons_zero, List.set_cons_succ, List.getElem_toArray, List.getElem_cons_succ, List.getElem_cons_zero]))
      first | (refine wpAnyH_take (i := 13) (v := ?_) rfl (by kernel_rfl) (by kernel_rfl) (by kernel_rfl) (fun _ _ _ h => h) (Or.inl ⟨by rfl, ?_⟩) hH1 ?_; rotate_left; (focus (intro w' hSw; obtain ⟨z0, z1, z2, z3⟩ := hSw; (try have s0 := zv.at_ hk); go_simp; (try rw [if_neg (by omega)]); (try with_reducible rfl); done)); (try simp only [Act.put, List.setIfInBounds_toArray, List.set_cons_zero, List.set_cons_succ, List.getElem_toArray, List.getElem_cons_succ, List.getElem_cons_zero])) | (refine wpAnyH_take (i := 13) (v := undef) rfl (by kernel_rfl) (by kernel_rfl) (by kernel_rfl) (fun _ _ _ h => h) (Or.inr ⟨by rfl, rfl⟩) hH1 ?_; (try simp only [Act.put, List.setIfInBounds_toArray, List.set_cons_zero, List.set_cons_succ, List.getElem_toArray, List.getElem_cons_succ, List.getElem_cons_zero]))
      first | (refine wpAnyH_take (i := 14) (v := ?_) rfl (by kernel_rfl) (by kernel_rfl) (by kernel_rfl) (fun _ _ _ h => h) (Or.inl ⟨by rfl, ?_⟩) hH1 ?_; rotate_left; (focus (intro w' hSw; obtain ⟨z0, z1, z2, z3⟩ := hSw; (try have s0 := zv.at_ hk); go_simp; (try rw [if_neg (by omega)]); (try with_reducible rfl); done)); (try simp only [Act.put, List.setIfInBounds_toArray, List.set_cons_zero, List.set_cons_succ, List.getElem_toArray, List.getElem_cons_succ, List.getElem_cons_zero])) | (refine wpAnyH_take (i := 14) (v := undef) rfl (by kernel_rfl) (by kernel_rfl) (by kernel_rfl) (fun _ _ _ h => h) (Or.inr ⟨by rfl, rfl⟩) hH1 ?_; (try simp only [Act.put, List.setIfInBounds_toArray, List.set_cons_zero, List.set_cons_succ, List.getElem_toArray, List.getElem_cons_succ, List.getElem_cons_zero]))
      first | (refine wpAnyH_take (i := 15) (v := ?_) rfl (by kernel_rfl) (by kernel_rfl) (by kernel_rfl) (fun _ _ _ h => h) (Or.inl ⟨by rfl, ?_⟩) hH1 ?_; rotate_left; (focus (intro w' hSw; obtain ⟨z0, z1, z2, z3⟩ := hSw; (try have s0 := zv.at_ hk); go_simp; (try rw [if_neg (by omega)]); (try with_reducible rfl); done)); (try simp only [Act.put, List.setIfInBounds_toArray, List.set_cons_zero, List.set_cons_succ, List.getElem_toArray, List.getElem_cons_succ, List.getElem_cons_zero])) | (refine wpAnyH_take (i := 15) (v := undef) rfl (by kernel_rfl) (by kernel_rfl) (by kernel_rfl) (fun _ _ _ h => h) (Or.inr ⟨by rfl, rfl⟩) hH1 ?_; (try simp only [Act.put, List.setIfInBounds_toArray, List.set_cons_zero, List.set_cons_succ, List.getElem_toArray, List.getElem_cons_succ, List.getElem_cons_zero]))
      first | (refine wpAnyH_take (i := 16) (v := ?_) rfl (by kernel_rfl) (by kernel_rfl) (by kernel_rfl) (fun _ _ _ h => h) (Or.inl ⟨by rfl, ?_⟩) hH1 ?_; rotate_left; (focus (intro w' hSw; obtain ⟨z0, z1, z2, z3⟩ := hSw; (try have s0 := zv.at_ hk); go_simp; (try rw [if_neg (by omega)]); (try with_reducible rfl); done)); (try simp only [Act.put, List.setIfInBounds_toArray, List.set_cons_zero, List.set_cons_succ, List.getElem_toArray, List.getElem_cons_succ, List.getElem_cons_zero])) | (refine wpAnyH_take (i := 16) (v := undef) rfl (by kernel_rfl) (by kernel_rfl) (by kernel_rfl) (fun _ _ _ h => h) (Or.inr ⟨by rfl, rfl⟩) hH1 ?_; (try simp only [Act.put, List.setIfInBounds_toArray, List.set_cons_zero, List.set_cons_succ, List.getElem_toArray, List.getElem_cons_succ, List.getElem_cons_zero]))
      first | (refine wpAnyH_take (i := 17) (v := ?_) rfl (by kernel_rfl) (by kernel_rfl) (by kernel_rfl) (fun _ _ _ h => h) (Or.inl ⟨by rfl, ?_⟩) hH1 ?_; rotate_left; (focus (intro w' hSw; obtain ⟨z0, z1, z2, z3⟩ := hSw; (try have s0 := zv.at_ hk); go_simp; (try rw [if_neg (by omega)]); (try with_reducible rfl); done)); (try simp only [Act.put, List.setIfInBounds_toArray, List.set_cons_zero, List.set_cons_succ, List.getElem_toArray, List.getElem_cons_succ, List.getElem_cons_zero])) | (refine wpAnyH_take (i := 17) (v := undef) rfl (by kernel_rfl) (by kernel_rfl) (by kernel_rfl) (fun _ _ _ h => h) (Or.inr ⟨by rfl, rfl⟩) hH1 ?_; (try simp only [Act.put, List.setIfInBounds_toArray, List.set_cons_zero, List.set_cons_succ, List.getElem_toArray, List.getElem_cons_succ, List.getElem_cons_zero]))
      first | (refine wpAnyH_take (i := 18) (v := ?_) rfl (by kernel_rfl) (by kernel_rfl) (by kernel_rfl) (fun _ _ _ h => h) (Or.inl ⟨by rfl, ?_⟩) hH1 ?_; rotate_left; (focus (intro w' hSw; obtain ⟨z0, z1, z2, z3⟩ := hSw; (try have s0 := zv.at_ hk); go_simp; (try rw [if_neg (by omega)]); (try with_reducible rfl); done)); (try simp only [Act.put, List.setIfInBounds_toArray, List.set_cons_zero, List.set_cons_succ, List.getElem_toArray, List.getElem_cons_succ, List.getElem_cons_zero])) | (refine wpAnyH_take (i := 18) (v := undef) rfl (by kernel_rfl) (by kernel_rfl) (by kernel_rfl) (fun _ _ _ h => h) (Or.inr ⟨by rfl, rfl⟩) hH1 ?_; (try simp only [Act.put, List.setIfInBounds_toArray, List.set_cons_zero, List.set_cons_succ, List.getElem_toArray, List.getElem_cons_succ, List.getElem_cons_zero]))
      refine wpAnyH_ready (rs := [19]) (by kernel_rfl) (by simp) (AllReadyH.cons rfl (fun K' hK' => ?_) AllReadyH.nil)
      go_simp
      refine (rmany_any k hk _).mono ?_
      rintro e w2 ⟨rfl, hb2⟩
      (try dsimp only)
      have hB2 := below_trans hB1 hb2
      have hH2 := hH1.below hb2
      clear hb2
      refine hK'.out _ _ hH2 (fun _ => ?_)
      clear hK' K'
      (try simp only [Act.put, List.setIfInBounds_toArray, List.set_cons_zero, List.set_cons_succ, List.getElem_toArray, List.getElem_cons_succ, List.getElem_cons_zero])
      first | (refine wpAnyH_take (i := 20) (v := ?_) rfl (by kernel_rfl) (by kernel_rfl) (by kernel_rfl) (fun _ _ _ h => h) (Or.inl ⟨by rfl, ?_⟩) hH2 ?_; rotate_left; (focus (intro w' hSw; obtain ⟨z0, z1, z2, z3⟩ := hSw; (try have s0 := zv.at_ hk); go_simp; (try rw [if_neg (by omega)]); (try with_reducible rfl); done)); (try simp only [Act.put, List.setIfInBounds_toArray, List.set_cons_zero, List.set_cons_succ, List.getElem_toArray, List.getElem_cons_succ, List.getElem_cons_zero])) | (refine wpAnyH_take (i := 20) (v := undef) rfl (by kernel_rfl) (by kernel_rfl) (by kernel_rfl) (fun _ _ _ h => h) (Or.inr ⟨by rfl, rfl⟩) hH2 ?_; (try simp only [Act.put, List.setIfInBounds_toArray, List.set_cons_zero, List.set_cons_succ, List.getElem_toArray, List.getElem_cons_succ, List.getElem_cons_zero]))
      first | (refine wpAnyH_take (i := 21) (v := ?_) rfl (by kernel_rfl) (by kernel_rfl) (by kernel_rfl) (fun _ _ _ h => h) (Or.inl ⟨by rfl, ?_⟩) hH2 ?_; rotate_left; (focus (intro w' hSw; obtain ⟨z0, z1, z2, z3⟩ := hSw; (try have s0 := zv.at_ hk); go_simp; (try rw [if_neg (by omega)]); (try with_reducible rfl); done)); (try simp only [Act.put, List.setIfInBounds_toArray, List.set_cons_zero, List.set_cons_succ, List.getElem_toArray, List.getElem_cons_succ, List.getElem_cons_zero])) | (refine wpAnyH_take (i := 21) (v := undef) rfl (by kernel_rfl) (by kernel_rfl) (by kernel_rfl) (fun _ _ _ h => h) (Or.inr ⟨by rfl, rfl⟩) hH2 ?_; (try simp only [Act.put, List.setIfInBounds_toArray, List.set_cons_zero, List.set_cons_succ, List.getElem_toArray, List.getElem_cons_succ, List.getElem_cons_zero]))
      refine wpAnyH_done (by kernel_rfl) (NoPanic.normal ?_) _
      (try simp only [Act.put, List.setIfInBounds_toArray, List.set_cons_zero, List.set_cons_succ, List.getElem_toArray, List.getElem_cons_succ, List.getElem_cons_zero])
      rw [← HR.out]
      exact HKK.out _ _ _ _ _ _ _ _ _ _ _ _ _ _ _ _ _ _ _ _ _ _ hB2
set_option maxRecDepth 100000 in
set_option maxHeartbeats 4000000 in
theorem rtext_reg5 {c : Code} (hc : c = rgOf Tryz.f16 5) {wc : World} {k : Nat} {Q : Exit → Act → World → Prop}
  (hS : XB xb (.int .i64 at_) (.int .i64 (k : Nat)) (.string nm) (.slice na L nc) wc) (hk : k < 18) (hk1 : 1 ≤ k) (h0 : 0 ≤ at_) (h1 : at_ ≤ 100000)
  {v0 v2 v3 v5 v6 v7 v8 v9 v10 v11 v12 v13 v14 v15 v16 v17 v18 v19 v20 v21 v22 v23 v24 v25 v26 v27 v28 v29 v30 v31 v32 v33 v34 v35 v36 v37 v38 v39 v40 v41 v42 v43 v44 v45 v46 v47 v48 v49 v50 v51 v52 v53 v54 v55 v56 v57 v58 v59 v60 v61 v62 v63 v64 v65 v66 v67 v68 v69 v70 v71 v72 v73 v74 v75 v76 v77 v78 v79 v80 v81 v82 v83 v84 v85 v86 v87 v88 v89 v90 v91 v92 v93 : Value}
  (v4 : Value)
  (hK : ∀ (u48 u49 u50 u51 u52 u53 u54 u55 u56 u57 u58 : Value) (T : ByteArray) (w' : World), Below wc.heap.size wc w' → T.data.toList = [97, 116, 32] ++ Lib.itoa at_ ++ [32] ++ wordN k →
    Q Exit.normal { tmps := #[v0, .pointer (some ⟨xb, 0, none⟩), v2, v3, .string T, v5, v6, v7, v8, v9, v10, v11, v12, v13, v14, v15, v16, v17, v18, v19, v20, v21, v22, v23, v24, v25, v26, v27, v28, v29, v30, v31, v32, v33, v34, v35, v36, v37, v38, v39, v40, v41, v42, v43, v44, v45, v46, v47, u48, u49, u50, u51, u52, u53, u54, u55, u56, u57, u58, v59, v60, v61, v62, v63, v64, v65, v66, v67, v68, v69, v70, v71, v72, v73, v74, v75, v76, v77, v78, v79, v80, v81, v82, v83, v84, v85, v86, v87, v88, v89, v90, v91, v92, v93], defers := [] } w') :
  Code.wp Tryz.prog c Q { tmps := #[v0, .pointer (some ⟨xb, 0, none⟩), v2, v3, v4, v5, v6, v7, v8, v9, v10, v11, v12, v13, v14, v15, v16, v17, v18, v19, v20, v21, v22, v23, v24, v25, v26, v27, v28, v29, v30, v31, v32, v33, v34, v35, v36, v37, v38, v39, v40, v41, v42, v43, v44, v45, v46, v47, v48, v49, v50, v51, v52, v53, v54, v55, v56, v57, v58, v59, v60, v61, v62, v63, v64, v65, v66, v67, v68, v69, v70, v71, v72, v73, v74, v75, v76, v77, v78, v79, v80, v81, v82, v83, v84, v85, v86, v87, v88, v89, v90, v91, v92, v93], defers := [] } wc := by
  subst hc
  conv => arg 2; whnf
  have HKK := Lib.hid hK
  clear hK
  have j2 : (k : Int) < 18 := by omega
  have hB : Below wc.heap.size wc wc.drew := (Below.refl _ _).drew
  have hH : XB xb (.int .i64 at_) (.int .i64 (k : Nat)) (.string nm) (.slice na L nc) wc.drew := hS.below hB
  have hDl : (Lib.itoa at_).length ≤ 21 := Lib.itoa_length_le at_ (by omega) (by omega)
  have hWl := word_short hk1 (show k ≤ 17 by omega)
  clear hS
  refine wp_region_noPanic ?_
  refine wp_region_held_drew (S := XB xb (.int .i64 at_) (.int .i64 (k : Nat)) (.string nm) (.slice na L nc)) (by kernel_rfl) hH (fun _ => ?_)
  first | (refine wpAnyH_take (i := 0) (v := ?_) rfl (by kernel_rfl) (by kernel_rfl) (by kernel_rfl) (fun _ _ _ h => h) (Or.inl ⟨by rfl, ?_⟩) hH ?_; rotate_left; (focus (intro w' hSw; obtain ⟨z0, z1, z2, z3⟩ := hSw; (try have s0 := zv.at_ hk); go_simp; (try rw [if_neg (by omega)]); (try with_reducible rfl); done)); (try simp only [Act.put, List.setIfInBounds_toArray, List.set_cons_zero, List.set_cons_succ, List.getElem_toArray, List.getElem_cons_succ, List.getElem_cons_zero])) | (refine wpAnyH_take (i := 0) (v := undef) rfl (by kernel_rfl) (by kernel_rfl) (by kernel_rfl) (fun _ _ _ h => h) (Or.inr ⟨by rfl, rfl⟩) hH ?_; (try simp only [Act.put, List.setIfInBounds_toArray, List.set_cons_zero, List.set_cons_succ, List.getElem_toArray, List.getElem_cons_succ, List.getElem_cons_zero]))
  first | (refine wpAnyH_take (i := 1) (v := ?_) rfl (by kernel_rfl) (by kernel_rfl) (by kernel_rfl) (fun _ _ _ h => h) (Or.inl ⟨by rfl, ?_⟩) hH ?_; rotate_left; (focus (intro w' hSw; obtain ⟨z0, z1, z2, z3⟩ := hSw; (try have s0 := zv.at_ hk); go_simp; (try rw [if_neg (by omega)]); (try with_reducible rfl); done)); (try simp only [Act.put, List.setIfInBounds_toArray, List.set_cons_zero, List.set_cons_succ, List.getElem_toArray, List.getElem_cons_succ, List.getElem_cons_zero])) | (refine wpAnyH_take (i := 1) (v := undef) rfl (by kernel_rfl) (by kernel_rfl) (by kernel_rfl) (fun _ _ _ h => h) (Or.inr ⟨by rfl, rfl⟩) hH ?_; (try simp only [Act.put, List.setIfInBounds_toArray, List.set_cons_zero, List.set_cons_succ, List.getElem_toArray, List.getElem_cons_succ, List.getElem_cons_zero]))
  first | (refine wpAnyH_take (i := 6) (v := ?_) rfl (by kernel_rfl) (by kernel_rfl) (by kernel_rfl) (fun _ _ _ h => h) (Or.inl ⟨by rfl, ?_⟩) hH ?_; rotate_left; (focus (intro w' hSw; obtain ⟨z0, z1, z2, z3⟩ := hSw; (try have s0 := zv.at_ hk); go_simp; (try rw [if_neg (by omega)]); (try with_reducible rfl); done)); (try simp only [Act.put, List.setIfInBounds_toArray, List.set_cons_zero, List.set_cons_succ, List.getElem_toArray, List.getElem_cons_succ, List.getElem_cons_zero])) | (refine wpAnyH_take (i := 6) (v := undef) rfl (by kernel_rfl) (by kernel_rfl) (by kernel_rfl) (fun _ _ _ h => h) (Or.inr ⟨by rfl, rfl⟩) hH ?_; (try simp only [Act.put, List.setIfInBounds_toArray, List.set_cons_zero, List.set_cons_succ, List.getElem_toArray, List.getElem_cons_succ, List.getElem_cons_zero]))
  first | (refine wpAnyH_take (i := 7) (v := ?_) rfl (by kernel_rfl) (by kernel_rfl) (by kernel_rfl) (fun _ _ _ h => h) (Or.inl ⟨by rfl, ?_⟩) hH ?_; rotate_left; (focus (intro w' hSw; obtain ⟨z0, z1, z2, z3⟩ := hSw; (try have s0 := zv.at_ hk); go_simp; (try rw [if_neg (by omega)]); (try with_reducible rfl); done)); (try simp only [Act.put, List.setIfInBounds_toArray, List.set_cons_zero, List.set_cons_succ, List.getElem_toArray, List.getElem_cons_succ, List.getElem_cons_zero])) | (refine wpAnyH_take (i := 7) (v := undef) rfl (by kernel_rfl) (by kernel_rfl) (by kernel_rfl) (fun _ _ _ h => h) (Or.inr ⟨by rfl, rfl⟩) hH ?_; (try simp only [Act.put, List.setIfInBounds_toArray, List.set_cons_zero, List.set_cons_succ, List.getElem_toArray, List.getElem_cons_succ, List.getElem_cons_zero]))
  refine wpAnyH_ready (rs := [2]) (by kernel_rfl) (by simp) (AllReadyH.cons rfl (fun K' hK' => ?_) AllReadyH.nil)
  go_simp
  refine (rdigits_any at_ (by omega) (by omega) _).mono ?_
  rintro e w1 ⟨rfl, hb1⟩
  (try dsimp only)
  have hB1 := below_trans hB hb1
  have hH1 := hH.below hb1
  obtain ⟨D, hD⟩ : ∃ D : ByteArray, (⟨(Lib.itoa at_).toArray⟩ : ByteArray) = D := ⟨_, rfl⟩
  have hDs : D.size ≤ 21 := by rw [← hD]; simpa [ByteArray.size] using hDl
  have HD : Hid (D.data.toList = Lib.itoa at_) := by unfold Hid; rw [← hD]
  rw [hD]
  clear hb1 hD hDl
  refine hK'.out _ _ hH1 (fun _ => ?_)
  clear hK' K'
  (try simp only [Act.put, List.setIfInBounds_toArray, List.set_cons_zero, List.set_cons_succ, List.getElem_toArray, List.getElem_cons_succ, List.getElem_cons_zero])
  first | (refine wpAnyH_take (i := 3) (v := ?_) rfl (by kernel_rfl) (by kernel_rfl) (by kernel_rfl) (fun _ _ _ h => h) (Or.inl ⟨by rfl, ?_⟩) hH1 ?_; rotate_left; (focus (intro w' hSw; obtain ⟨z0, z1, z2, z3⟩ := hSw; (try have s0 := zv.at_ hk); go_simp; (try rw [if_neg (by omega)]); (try with_reducible rfl); done)); (try simp only [Act.put, List.setIfInBounds_toArray, List.set_cons_zero, List.set_cons_succ, List.getElem_toArray, List.getElem_cons_succ, List.getElem_cons_zero])) | (refine wpAnyH_take (i := 3) (v := undef) rfl (by kernel_rfl) (by kernel_rfl) (by kernel_rfl) (fun _ _ _ h => h) (Or.inr ⟨by rfl, rfl⟩) hH1 ?_; (try simp only [Act.put, List.setIfInBounds_toArray, List.set_cons_zero, List.set_cons_succ, List.getElem_toArray, List.getElem_cons_succ, List.getElem_cons_zero]))
  first | (refine wpAnyH_take (i := 4) (v := ?_) rfl (by kernel_rfl) (by kernel_rfl) (by kernel_rfl) (fun _ _ _ h => h) (Or.inl ⟨by rfl, ?_⟩) hH1 ?_; rotate_left; (focus (intro w' hSw; obtain ⟨z0, z1, z2, z3⟩ := hSw; (try have s0 := zv.at_ hk); go_simp; (try rw [if_neg (by omega)]); (try with_reducible rfl); done)); (try simp only [Act.put, List.setIfInBounds_toArray, List.set_cons_zero, List.set_cons_succ, List.getElem_toArray, List.getElem_cons_succ, List.getElem_cons_zero])) | (refine wpAnyH_take (i := 4) (v := undef) rfl (by kernel_rfl) (by kernel_rfl) (by kernel_rfl) (fun _ _ _ h => h) (Or.inr ⟨by rfl, rfl⟩) hH1 ?_; (try simp only [Act.put, List.setIfInBounds_toArray, List.set_cons_zero, List.set_cons_succ, List.getElem_toArray, List.getElem_cons_succ, List.getElem_cons_zero]))
  refine wpAnyH_ready (rs := [5]) (by kernel_rfl) (by simp) (AllReadyH.cons rfl (fun K' hK' => ?_) AllReadyH.nil)
  go_simp
  refine (rverbs_any _).mono ?_
  rintro e w2 ⟨rfl, hw2⟩
  (try dsimp only)
  have hV2 := rverbs_new w1
  have hb2 : Below w1.heap.size w1 w2 := by rw [hw2]; exact balloc (Below.refl _ _) _
  have hB2 := below_trans hB1 hb2
  have hH2 := hH1.below hb2
  have hG : XR xb w1.heap.size (.int .i64 at_) (.int .i64 (k : Nat)) (.string nm) (.slice na L nc) w2 := ⟨hH2, by rw [hw2]; exact hV2⟩
  clear hw2 hV2 hb2
  refine hK'.out _ _ hH2 (fun _ => ?_)
  refine wpAnyH_weaken (S' := XR xb w1.heap.size (.int .i64 at_) (.int .i64 (k : Nat)) (.string nm) (.slice na L nc)) (fun _ h => h.s) _ _ _ _ ?_
  clear hK' K'
  (try simp only [Act.put, List.setIfInBounds_toArray, List.set_cons_zero, List.set_cons_succ, List.getElem_toArray, List.getElem_cons_succ, List.getElem_cons_zero])
  first | (refine wpAnyH_take (i := 8) (v := ?_) rfl (by kernel_rfl) (by kernel_rfl) (by kernel_rfl) (fun _ _ _ h => h) (Or.inl ⟨by rfl, ?_⟩) hG ?_; rotate_left; (focus (intro w' hSw; obtain ⟨⟨z0, z1, z2, z3⟩, zv⟩ := hSw; (try have s0 := zv.at_ hk); go_simp; (try rw [if_neg (by omega)]); (try with_reducible rfl); done)); (try simp only [Act.put, List.setIfInBounds_toArray, List.set_cons_zero, List.set_cons_succ, List.getElem_toArray, List.getElem_cons_succ, List.getElem_cons_zero])) | (refine wpAnyH_take (i := 8) (v := undef) rfl (by kernel_rfl) (by kernel_rfl) (by kernel_rfl) (fun _ _ _ h => h) (Or.inr ⟨by rfl, rfl⟩) hG ?_; (try simp only [Act.put, List.setIfInBounds_toArray, List.set_cons_zero, List.set_cons_succ, List.getElem_toArray, List.getElem_cons_succ, List.getElem_cons_zero]))
  first | (refine wpAnyH_take (i := 9) (v := ?_) rfl (by kernel_rfl) (by kernel_rfl) (by kernel_rfl) (fun _ _ _ h => h) (Or.inl ⟨by rfl, ?_⟩) hG ?_; rotate_left; (focus (intro w' hSw; obtain ⟨⟨z0, z1, z2, z3⟩, zv⟩ := hSw; (try have s0 := zv.at_ hk); go_simp; (try rw [if_neg (by omega)]); (try with_reducible rfl); done)); (try simp only [Act.put, List.setIfInBounds_toArray, List.set_cons_zero, List.set_cons_succ, List.getElem_toArray, List.getElem_cons_succ, List.getElem_cons_zero])) | (refine wpAnyH_take (i := 9) (v := undef) rfl (by kernel_rfl) (by kernel_rfl) (by kernel_rfl) (fun _ _ _ h => h) (Or.inr ⟨by rfl, rfl⟩) hG ?_; (try simp only [Act.put, List.setIfInBounds_toArray, List.set_cons_zero, List.set_cons_succ, List.getElem_toArray, List.getElem_cons_succ, List.getElem_cons_zero]))
  obtain ⟨Wd, hWd⟩ : ∃ Wd : ByteArray, (⟨(wordN k).toArray⟩ : ByteArray) = Wd := ⟨_, rfl⟩
  have hWs : Wd.size ≤ 8 := by rw [← hWd]; simpa [ByteArray.size] using hWl
  have HWD : Hid (Wd.data.toList = wordN k) := by unfold Hid; rw [← hWd]
  rw [hWd]
  clear hWd hWl
  first | (refine wpAnyH_take (i := 10) (v := ?_) rfl (by kernel_rfl) (by kernel_rfl) (by kernel_rfl) (fun _ _ _ h => h) (Or.inl ⟨by rfl, ?_⟩) hG ?_; rotate_left; (focus (intro w' hSw; obtain ⟨⟨z0, z1, z2, z3⟩, zv⟩ := hSw; (try have s0 := zv.at_ hk); go_simp; (try rw [if_neg (by omega)]); (try with_reducible rfl); done)); (try simp only [Act.put, List.setIfInBounds_toArray, List.set_cons_zero, List.set_cons_succ, List.getElem_toArray, List.getElem_cons_succ, List.getElem_cons_zero])) | (refine wpAnyH_take (i := 10) (v := undef) rfl (by kernel_rfl) (by kernel_rfl) (by kernel_rfl) (fun _ _ _ h => h) (Or.inr ⟨by rfl, rfl⟩) hG ?_; (try simp only [Act.put, List.setIfInBounds_toArray, List.set_cons_zero, List.set_cons_succ, List.getElem_toArray, List.getElem_cons_succ, List.getElem_cons_zero]))
  first | (refine wpAnyH_take (i := 11) (v := ?_) rfl (by kernel_rfl) (by kernel_rfl) (by kernel_rfl) (fun _ _ _ h => h) (Or.inl ⟨by rfl, ?_⟩) hG ?_; rotate_left; (focus (intro w' hSw; obtain ⟨⟨z0, z1, z2, z3⟩, zv⟩ := hSw; (try have s0 := zv.at_ hk); go_simp; (try rw [if_neg (by omega)]); (try with_reducible rfl); done)); (try simp only [Act.put, List.setIfInBounds_toArray, List.set_cons_zero, List.set_cons_succ, List.getElem_toArray, List.getElem_cons_succ, List.getElem_cons_zero])) | (refine wpAnyH_take (i := 11) (v := undef) rfl (by kernel_rfl) (by kernel_rfl) (by kernel_rfl) (fun _ _ _ h => h) (Or.inr ⟨by rfl, rfl⟩) hG ?_; (try simp only [Act.put, List.setIfInBounds_toArray, List.set_cons_zero, List.set_cons_succ, List.getElem_toArray, List.getElem_cons_succ, List.getElem_cons_zero]))
  refine wpAnyH_done (by kernel_rfl) (NoPanic.normal ?_) _
  (try simp only [Act.put, List.setIfInBounds_toArray, List.set_cons_zero, List.set_cons_succ, List.getElem_toArray, List.getElem_cons_succ, List.getElem_cons_zero])
  refine HKK.out _ _ _ _ _ _ _ _ _ _ _ _ _ hB2 ?_
  simp only [ByteArray.data_append, Array.toList_append, HD.out, HWD.out]
end
end Go.Proofs.YtkjajpfgdjfcoaaGreatDoor
namespace Go.Proofs.YtkjajpfgdjfcoaaGreatDoor
open Go.RowKit Go.Maps Go.Sort Go.Shelf
theorem ba_back (T : ByteArray) : (⟨T.data.toList.toArray⟩ : ByteArray) = T := by simp
theorem join_snoc : ∀ (l : List (List UInt8)) (a : List UInt8), l ≠ [] → Lib.join (l ++ [a]) [32] = Lib.join l [32] ++ 32 :: a
  | [], _, h => absurd rfl h
  | [x], a, _ => by rw [List.cons_append, List.nil_append, join_two, join_one, join_one]
  | x :: y :: l, a, _ => by
    have ih := join_snoc (y :: l) a (by simp)
    rw [List.cons_append, List.cons_append, join_two, join_two, ← List.cons_append, ih]
    simp
theorem headW_ne (x : OL) : headW x ≠ [] := by unfold headW; exact List.cons_ne_nil _ _
theorem up_ne (x : OL) (j : Nat) : wordsUp x j ≠ [] := by unfold wordsUp; simp [headW_ne]
theorem up_snoc (x : OL) {j : Nat} (h : j < x.nums.length) : Lib.join (wordsUp x (j + 1)) [32] = Lib.join (wordsUp x j) [32] ++ 32 :: Lib.itoa (x.nums.getD j 0) := by
  rw [wordsUp_succ x h, join_snoc _ _ (up_ne x j)]
theorem up_all (x : OL) : Lib.join (wordsUp x x.nums.length) [32] = lineT x := by rw [wordsUp_all]; rfl
theorem all_snoc {α : Type} (p : α → Bool) (l : List α) (a : α) : (l ++ [a]).all p = (l.all p && p a) := by simp
theorem upLen {x : OL} (h1 : (Lib.join (headW x) [32]).length ≤ 1000) : ∀ j, j ≤ x.nums.length → (∀ n ∈ x.nums, -9223372036854775808 ≤ n ∧ n ≤ 9223372036854775807) → (Lib.join (wordsUp x j) [32]).length ≤ 1000 + j * 22
  | 0, _, _ => by rw [wordsUp_zero]; omega
  | j + 1, hj, hn => by
    have ih := upLen h1 j (by omega) hn
    rw [up_snoc x hj]
    have hq := hn _ (getD_mem (d := 0) hj)
    have := Lib.itoa_length_le (x.nums.getD j 0) hq.1 hq.2
    simp only [List.length_append, List.length_cons]
    omega
set_option maxRecDepth 100000 in
set_option maxHeartbeats 4000000 in
theorem rtext_tail {c : Code} (hc : c = frOf Tryz.f16 8) {w wc : World} {xb : Nat} {nv : Value} {x : OL} {T0 : ByteArray} {tv : List UInt8 × Int}
  (hX : XB xb (.int .i64 x.at_) (.int .i64 (x.verb : Nat)) (.string ⟨x.name.toArray⟩) nv wc) (hN : RowI w nv x.nums) (hNl : x.nums.length ≤ 4) (hNi : ∀ n ∈ x.nums, -9223372036854775808 ≤ n ∧ n ≤ 9223372036854775807)
  (hT : T0.data.toList = Lib.join (headW x) [32]) (hTl : (Lib.join (headW x) [32]).length ≤ 1000)
  (htv : tv = if (x.nums.all fun n => !bigB n) && decide ((lineT x).length ≤ 120) then (lineT x, 0) else ([], 2)) (hB : Below w.heap.size w wc)
  {v0 v2 v3 v5 v6 v7 v8 v9 v10 v11 v12 v13 v14 v15 v16 v17 v18 v19 v20 v21 v22 v23 v24 v25 v26 v27 v28 v29 v30 v31 v32 v33 v34 v35 v36 v37 v38 v39 v40 v41 v42 v43 v44 v45 v46 v47 v48 v49 v50 v51 v52 v53 v54 v55 v56 v57 v58 v59 v60 v61 v62 v63 v64 v65 v66 v67 v68 v69 v70 v71 v72 v73 v74 v75 v76 v77 v78 v79 v80 v81 v82 v83 v84 v85 v86 v87 v88 v89 v90 v91 v92 v93 : Value} :
  Code.wp Tryz.prog c (bodyPost Tryz.prog Tryz.f16 (TextEnd w tv)) { tmps := #[v0, .pointer (some ⟨xb, 0, none⟩), v2, v3, .string T0, v5, v6, v7, v8, v9, v10, v11, v12, v13, v14, v15, v16, v17, v18, v19, v20, v21, v22, v23, v24, v25, v26, v27, v28, v29, v30, v31, v32, v33, v34, v35, v36, v37, v38, v39, v40, v41, v42, v43, v44, v45, v46, v47, v48, v49, v50, v51, v52, v53, v54, v55, v56, v57, v58, v59, v60, v61, v62, v63, v64, v65, v66, v67, v68, v69, v70, v71, v72, v73, v74, v75, v76, v77, v78, v79, v80, v81, v82, v83, v84, v85, v86, v87, v88, v89, v90, v91, v92, v93], defers := [] } wc := by
  subst hc
  conv => arg 2; whnf
  obtain ⟨n, k, nm, ns⟩ := x
  simp only at *
  obtain ⟨na, ncp, rfl, hx⟩ := id hN
  clear hx
  have HN := Lib.hid hN
  have HNI := Lib.hid hNi
  have HTV := Lib.hid htv
  have HUL := Lib.hid (fun j hj => upLen (x := ⟨n, k, nm, ns⟩) hTl j hj hNi)
  have HT0 : Hid (T0.data.toList = Lib.join (wordsUp ⟨n, k, nm, ns⟩ 0) [32]) := by unfold Hid; rw [wordsUp_zero]; exact hT
  clear hN hNi hT hTl htv
  go_wp2_with fail
  go_loopw [4, 5] (fun t i wr => ∃ (j : Nat) (T : ByteArray), j ≤ ns.length ∧ i = .int .i64 j ∧ t = .string T ∧ Hid (T.data.toList = Lib.join (wordsUp ⟨n, k, nm, ns⟩ j) [32]) ∧ Hid ((ns.take j).all (fun n => !bigB n) = true) ∧ XB xb (.int .i64 n) (.int .i64 (k : Nat)) (.string ⟨nm.toArray⟩) (.slice na ns.length ncp) wr ∧ Below w.heap.size w wr) (fun _ i _ => ns.length - (intOf i).toNat)
  case atStart => exact ⟨0, T0, Nat.zero_le _, rfl, rfl, HT0, show _ = _ from rfl, hX, hB⟩
  case round =>
    obtain ⟨j, T, hj, rfl, rfl, HTJ, HAJ, hXj, hBj⟩ := hrel
    clear hX HT0 hB
    have hTs : T.size ≤ 2000 := by
      have h1 := HUL.out j hj
      rw [← HTJ.out] at h1
      have e : T.data.toList.length = T.size := by simp
      omega
    obtain ⟨q0, q1, q2, q3⟩ := id hXj
    by_cases hlt : j < ns.length
    · obtain ⟨a', c', hac, h0 | ⟨b, off, rfl, hb, hc⟩⟩ := HN.out.below hBj
      · omega
      · simp only [Value.slice.injEq] at hac
        obtain ⟨rfl, -, rfl⟩ := hac
        have s0 := hc j hlt
        have HUP := Lib.hid (up_snoc ⟨n, k, nm, ns⟩ hlt)
        have HMEM := Lib.hid (getD_mem (d := 0) hlt)
        have HTK := Lib.hid (take_snoc_getD 0 hlt)
        simp only at HUP
        generalize ns.getD j 0 = q at *
        have i2 : (j : Int) < (ns.length : Int) := by omega
        have HRX : Hid (∀ W, Calls Tryz.prog 41 #[.int .i64 q, .int .i64 (-1000000000000), .int .i64 1000000000000] W fun e w' => e = .returned (.bool (!bigB q)) ∧ W = w') := fun W => rin_any q (-1000000000000) 1000000000000 W
        clear hc
        cases hq : bigB q with
        | true =>
          rw [hq] at HRX
          have HTX : Hid (tv = ([], 2)) := by
            unfold Hid
            rw [HTV.out, show (ns.all fun n => !bigB n) = false from by
              rw [List.all_eq_false]; exact ⟨q, HMEM.out, by simp [hq]⟩]
            rfl
          go_wp2_with fail
          refine (HRX.out _).mono ?_
          rintro e w' ⟨rfl, rfl⟩
          go_wp2_with fail
          go_ret2
          exact ⟨by rw [HTX.out]; rfl, hBj⟩
        | false =>
          rw [hq] at HRX
          have hqb := outI_false.1 hq
          have hDl : (Lib.itoa q).length ≤ 21 := Lib.itoa_length_le q (by omega) (by omega)
          have HDG := Lib.hid (fun W => rdigits_any q (by omega) (by omega) W)
          have HA2 : Hid ((ns.take (j + 1)).all (fun n => !bigB n) = true) := by unfold Hid; rw [HTK.out, all_snoc, HAJ.out, hq]; rfl
          obtain ⟨D, hD⟩ : ∃ D : ByteArray, (⟨(Lib.itoa q).toArray⟩ : ByteArray) = D := ⟨_, rfl⟩
          have hDs : D.size ≤ 21 := by rw [← hD]; simpa [ByteArray.size] using hDl
          have HD : Hid (D.data.toList = Lib.itoa q) := by unfold Hid; rw [← hD]
          rw [hD] at HDG
          clear hq hqb hD hDl
          go_wp2_with fail
          refine (HRX.out _).mono ?_
          rintro e w' ⟨rfl, rfl⟩
          go_wp2_with fail
          refine (HDG.out _).mono ?_
          rintro e w2 ⟨rfl, hb2⟩
          have hX2 := hXj.below hb2
          have hB2 := below_trans hBj hb2
          go_wp2_with fail
          go_roundw
          case rel =>
            refine ⟨j + 1, _, by omega, by go_num, rfl, ?_, HA2, hX2, hB2⟩
            unfold Hid
            rw [HUP.out, ← HTJ.out, ← HD.out]
            simp [ByteArray.data_append]
          case measure => simp [intOf]; omega
    · obtain rfl : j = ns.length := by omega
      have HAA : Hid ((ns.all fun n => !bigB n) = true) := by
        have h := HAJ.out
        rw [List.take_length] at h
        exact h
      have HTT : Hid (T.data.toList = lineT ⟨n, k, nm, ns⟩) := by
        unfold Hid
        rw [HTJ.out]
        exact up_all ⟨n, k, nm, ns⟩
      have hlen : (lineT ⟨n, k, nm, ns⟩).length = T.size := by rw [← HTT.out]; simp
      by_cases h120 : 120 < T.size
      · have HTX : Hid (tv = ([], 2)) := by
          unfold Hid; rw [HTV.out, decide_eq_false (by omega), Bool.and_false]; rfl
        have z : (120 : Int) < (T.size : Int) := by omega
        clear hlen h120
        go_wp2_with fail
        go_ret2
        exact ⟨by rw [HTX.out]; rfl, hBj⟩
      · have HTX : Hid (tv = (T.data.toList, 0)) := by
          unfold Hid; rw [HTV.out, HAA.out, decide_eq_true (by omega), HTT.out]; rfl
        have z : ¬ (120 : Int) < (T.size : Int) := by omega
        clear hlen h120
        go_wp2_with fail
        go_ret2
        exact ⟨by rw [HTX.out]; simp only [ba_back]; rfl, hBj⟩
end Go.Proofs.YtkjajpfgdjfcoaaGreatDoor
namespace Go.Proofs.YtkjajpfgdjfcoaaGreatDoor
open Go.RowKit Go.Maps Go.Sort Go.Shelf
theorem textR_bad {at_ v : Int} {nm : List UInt8} {ns : List Int} (h : rbadB at_ v ns.length = true) : textR at_ v nm ns = ([], 2) := by
  unfold textR
  cases ho : outI v 1 17 with
  | true => rfl
  | false =>
    rw [if_neg (by simp), if_neg]
    unfold rbadB at h
    rw [ho, Bool.false_or] at h
    unfold okOL
    simp only
    cases ha : outI at_ 0 100000 with
    | true => simp
    | false =>
      rw [ha, Bool.false_or, decide_eq_true_eq] at h
      simp [h]
def nameOK (k : Nat) (nm : List UInt8) : Bool := if namedB k then nameB nm else decide (nm = [])
theorem textR_name {at_ : Int} {k : Nat} {nm : List UInt8} {ns : List Int} (h : nameOK k nm = false) : textR at_ (k : Nat) nm ns = ([], 2) := by
  unfold textR
  split
  · rfl
  · rw [show (((k : Nat) : Int)).toNat = k from rfl, if_neg]
    unfold nameOK at h
    unfold okOL
    simp only
    rw [h]
    simp
theorem textR_good {at_ : Int} {k : Nat} {nm : List UInt8} {ns : List Int} (h : rbadB at_ (k : Nat) ns.length = false) (h2 : nameOK k nm = true) :
    textR at_ (k : Nat) nm ns = if (ns.all fun n => !bigB n) && decide ((lineT ⟨at_, k, nm, ns⟩).length ≤ 120) then (lineT ⟨at_, k, nm, ns⟩, 0) else ([], 2) := by
  unfold rbadB at h
  simp only [Bool.or_eq_false_iff, decide_eq_false_iff_not, Decidable.not_not] at h
  obtain ⟨ha, hv, hl⟩ := h
  have hb := outI_false.1 hv
  unfold textR
  rw [if_neg (by rw [hv]; simp), show (((k : Nat) : Int)).toNat = k from rfl]
  have e : okOL ⟨at_, k, nm, ns⟩ = ((ns.all fun n => !bigB n) && decide ((lineT ⟨at_, k, nm, ns⟩).length ≤ 120)) := by
    unfold nameOK at h2
    unfold okOL
    simp only
    rw [h2, ha, decide_eq_true (show ns.length = manyN k from hl), decide_eq_true (show 1 ≤ k by omega), decide_eq_true (show k ≤ 17 by omega)]
    simp only [Bool.not_false, Bool.true_and]
    rfl
  rw [e]
theorem head_join (at_ : Int) (k : Nat) (nm : List UInt8) (ns : List Int) : Lib.join (headW ⟨at_, k, nm, ns⟩) [32] = [97, 116, 32] ++ Lib.itoa at_ ++ [32] ++ wordN k ++ (if namedB k then 32 :: nm else []) := by
  unfold headW
  simp only
  split
  · rw [join_two, join_two, join_two, join_one]; simp [wAt]
  · rw [join_two, join_two, join_one]; simp [wAt]
set_option maxRecDepth 100000 in
set_option maxHeartbeats 4000000 in
theorem rtext_any (at_ v : Int) (nm : List UInt8) (nv : Value) (ns : List Int) (w : World) (hN : RowI w nv ns) (hNi : ∀ n ∈ ns, -9223372036854775808 ≤ n ∧ n ≤ 9223372036854775807) (hnl : nm.length ≤ 1048576) :
    Calls Tryz.prog 16 #[.agg #[.int .i64 at_, .int .i64 v, .string ⟨nm.toArray⟩, nv]] w (TextEnd w (textR at_ v nm ns)) := by
  obtain ⟨na, ncp, rfl, hx⟩ := id hN
  clear hx
  obtain ⟨W0, hW0⟩ : ∃ W0, w.alloc (.cells #[.int .i64 at_, .int .i64 v, .string ⟨nm.toArray⟩, .slice na ns.length ncp] 84) = W0 := ⟨_, rfl⟩
  have hC0 : cellsAt W0 w.heap.size 84 #[.int .i64 at_, .int .i64 v, .string ⟨nm.toArray⟩, .slice na ns.length ncp] := by rw [← hW0]; exact alloc_new _ _
  have hB0 : Below w.heap.size w W0 := by rw [← hW0]; exact balloc (Below.refl _ _) _
  obtain ⟨xb, hxe⟩ : ∃ xb, w.heap.size = xb := ⟨_, rfl⟩
  rw [hxe] at hC0
  have HXE := Lib.hid hxe
  have HW0 := Lib.hid hW0
  have hX0 : XB xb (.int .i64 at_) (.int .i64 v) (.string ⟨nm.toArray⟩) (.slice na ns.length ncp) W0 := ⟨(cells4 hC0).1, (cells4 hC0).2.1, (cells4 hC0).2.2.1, (cells4 hC0).2.2.2⟩
  clear hxe hW0 hC0
  have HN := Lib.hid hN
  have HNI := Lib.hid hNi
  clear hN hNi
  go_enter Tryz.func16, Tryz.ntmps16
  go_upto_region 1 with fail
  rw [HW0.out, HXE.out]
  refine rtext_reg1 (by kernel_rfl) hX0 ?_
  intro u6 u7 u8 u9 u10 u11 u12 u13 u14 u15 u16 u17 u18 u19 u20 u21 u22 u23 u24 u25 u26 w1 hb1
  have hX1 := hX0.below hb1
  have hB1 := below_trans hB0 hb1
  clear hX0 hB0 hb1
  cases hbd : rbadB at_ v ns.length with
  | true =>
    have HTR := Lib.hid (textR_bad (nm := nm) hbd)
    generalize textR at_ v nm ns = tv at *
    go_wp2_with fail
    go_ret2
    exact ⟨by rw [HTR.out]; rfl, hB1⟩
  | false =>
    have hb2 := hbd
    unfold rbadB at hb2
    simp only [Bool.or_eq_false_iff, decide_eq_false_iff_not, Decidable.not_not] at hb2
    obtain ⟨ha, hv, hl⟩ := hb2
    obtain ⟨hv1, hv2⟩ := outI_false.1 hv
    obtain ⟨ha1, ha2⟩ := outI_false.1 ha
    obtain ⟨k, rfl⟩ : ∃ k : Nat, v = (k : Int) := ⟨v.toNat, by omega⟩
    have hl4 : ns.length ≤ 4 := by rw [hl]; exact manyN_le _
    have hk : k < 18 := by omega
    have hv1' : 1 ≤ k := by omega
    have HBD := Lib.hid hbd
    clear ha hv hl hbd
    have hNB := fun W => rnamed_any k hk W
    have hNM := fun W => rname_any ⟨nm.toArray⟩ W (by simp [ByteArray.size]; omega)
    simp only at hNM
    obtain ⟨q0, q1, q2, q3⟩ := id hX1
    cases hok : nameOK k nm with
    | false =>
      have HTR := Lib.hid (textR_name (at_ := at_) (ns := ns) hok)
      generalize textR at_ (k : Nat) nm ns = tv at *
      cases hnb : namedB k with
      | true =>
        rw [hnb] at hNB
        have hnm : nameB nm = false := by unfold nameOK at hok; rw [hnb] at hok; exact hok
        rw [hnm] at hNM
        have HNB := Lib.hid hNB
        have HNM := Lib.hid hNM
        clear hNB hNM hnb hok hnm
        go_wp2_with fail
        refine (HNB.out _).mono ?_
        rintro e w2 ⟨rfl, hb2⟩
        have hX2 := hX1.below hb2
        have hB2 := below_trans hB1 hb2
        clear q0 q1 q2 q3
        obtain ⟨q0, q1, q2, q3⟩ := id hX2
        go_wp2_with fail
        refine (HNM.out _).mono ?_
        rintro e w' ⟨rfl, rfl⟩
        go_wp2_with fail
        go_ret2
        exact ⟨by rw [HTR.out]; rfl, hB2⟩
      | false =>
        rw [hnb] at hNB
        have hnm : (nm == []) = false := by unfold nameOK at hok; rw [hnb] at hok; simpa using hok
        have HNB := Lib.hid hNB
        clear hNB hNM hnb hok
        go_wp2_with fail
        refine (HNB.out _).mono ?_
        rintro e w2 ⟨rfl, hb2⟩
        have hX2 := hX1.below hb2
        have hB2 := below_trans hB1 hb2
        clear q0 q1 q2 q3
        obtain ⟨q0, q1, q2, q3⟩ := id hX2
        go_wp2_with fail
        refine (HNB.out _).mono ?_
        rintro e w3 ⟨rfl, hb3⟩
        have hX3 := hX2.below hb3
        have hB3 := below_trans hB2 hb3
        clear q0 q1 q2 q3
        obtain ⟨q0, q1, q2, q3⟩ := id hX3
        go_wp2_with fail
        go_ret2
        exact ⟨by rw [HTR.out]; rfl, hB3⟩
    | true =>
      have HTR := Lib.hid (textR_good HBD.out hok)
      generalize textR at_ (k : Nat) nm ns = tv at *
      have hDl : (Lib.itoa at_).length ≤ 21 := Lib.itoa_length_le at_ (by omega) (by omega)
      have hWl := word_short hv1' (show k ≤ 17 by omega)
      have HHJ := Lib.hid (head_join at_ k nm ns)
      cases hnb : namedB k with
      | true =>
        rw [hnb] at hNB
        have hnm : nameB nm = true := by unfold nameOK at hok; rw [hnb] at hok; exact hok
        have hn24 : nm.length ≤ 24 := by
          have h := hnm
          unfold nameB at h
          simp only [Bool.and_eq_true, decide_eq_true_eq] at h
          exact h.2
        rw [hnm] at hNM
        have HNB := Lib.hid hNB
        have HNM := Lib.hid hNM
        have HHL : Hid ((Lib.join (headW ⟨at_, k, nm, ns⟩) [32]).length ≤ 1000) := by
          show _ ≤ 1000
          rw [HHJ.out, if_pos hnb]; simp; omega
        have HHK : Hid (Lib.join (headW ⟨at_, k, nm, ns⟩) [32] = [97, 116, 32] ++ Lib.itoa at_ ++ [32] ++ wordN k ++ 32 :: nm) := by
          unfold Hid; rw [HHJ.out, if_pos hnb]
        clear hNB hNM hnb hok hnm HHJ
        go_wp2_with fail
        refine (HNB.out _).mono ?_
        rintro e w2 ⟨rfl, hb2⟩
        have hX2 := hX1.below hb2
        have hB2 := below_trans hB1 hb2
        clear q0 q1 q2 q3
        obtain ⟨q0, q1, q2, q3⟩ := id hX2
        go_wp2_with fail
        refine (HNM.out _).mono ?_
        rintro e w' ⟨rfl, rfl⟩
        go_wp2_with fail
        refine (HNB.out _).mono ?_
        rintro e w3 ⟨rfl, hb3⟩
        have hX3 := hX2.below hb3
        have hB3 := below_trans hB2 hb3
        clear hX1 hB1 hX2 hB2 hb2 hb3 q0 q1 q2 q3
        go_upto_region 5 with fail
        refine rtext_reg5 (by kernel_rfl) hX3 hk hv1' ha1 ha2 _ ?_
        intro u48 u49 u50 u51 u52 u53 u54 u55 u56 u57 u58 T w4 hb4 hT
        have hX4 := hX3.below hb4
        have hB4 := below_trans hB3 hb4
        have HT := Lib.hid hT
        have hTs : T.size ≤ 100 := by
          have e : T.data.toList.length = T.size := by simp
          rw [← e, hT]; simp; omega
        clear hX3 hB3 hb4 hT
        (try simp only [Exit.then])
        refine ‹∀ (a : Act) (w : World), Code.wp Tryz.prog _ _ a w → _› _ _ ?_
        apply wp_seq_k
        intro _ _
        go_cut [4] from 59 to 66 (fun v4 wx => ∃ T : ByteArray, v4 = .string T ∧ Hid (T.data.toList = Lib.join (headW ⟨at_, k, nm, ns⟩) [32]) ∧ XB xb (.int .i64 at_) (.int .i64 (k : Nat)) (.string ⟨nm.toArray⟩) (.slice na ns.length ncp) wx ∧ Below w.heap.size w wx)
        case first =>
          obtain ⟨q0, q1, q2, q3⟩ := id hX4
          go_wp2_with fail
          refine (HNB.out _).mono ?_
          rintro e w5 ⟨rfl, hb5⟩
          have hX5 := hX4.below hb5
          have hB5 := below_trans hB4 hb5
          clear q0 q1 q2 q3
          obtain ⟨q0, q1, q2, q3⟩ := id hX5
          obtain ⟨N, hNn⟩ : ∃ N : ByteArray, (⟨nm.toArray⟩ : ByteArray) = N := ⟨_, rfl⟩
          have hNs : N.size ≤ 24 := by rw [← hNn]; simpa [ByteArray.size] using hn24
          have HNN : Hid (N.data.toList = nm) := by unfold Hid; rw [← hNn]
          have HXX := Lib.hid hX5
          rw [hNn] at q2
          clear hNn hX4 hX5
          go_wp2_with fail
          go_meet
          refine ⟨_, rfl, ?_, HXX.out, hB5⟩
          unfold Hid
          rw [HHK.out, ← HT.out, ← HNN.out]
          simp [ByteArray.data_append]
        case rest =>
          obtain ⟨T', rfl, HT', hX6, hB6⟩ := hcut
          refine ‹∀ (a : Act) (w : World), Code.wp Tryz.prog _ _ a w → _› _ _ ?_
          exact rtext_tail (x := ⟨at_, k, nm, ns⟩) (by kernel_rfl) hX6 HN.out hl4 HNI.out HT'.out HHL.out HTR.out hB6
      | false =>
        rw [hnb] at hNB
        have hnm : (nm == []) = true := by unfold nameOK at hok; rw [hnb] at hok; simpa using hok
        have HNB := Lib.hid hNB
        have HHL : Hid ((Lib.join (headW ⟨at_, k, nm, ns⟩) [32]).length ≤ 1000) := by
          show _ ≤ 1000
          rw [HHJ.out, if_neg (by rw [hnb]; simp)]; simp; omega
        have HHK : Hid (Lib.join (headW ⟨at_, k, nm, ns⟩) [32] = [97, 116, 32] ++ Lib.itoa at_ ++ [32] ++ wordN k) := by
          unfold Hid; rw [HHJ.out, if_neg (by rw [hnb]; simp)]; simp
        clear hNB hNM hnb hok HHJ
        go_wp2_with fail
        refine (HNB.out _).mono ?_
        rintro e w2 ⟨rfl, hb2⟩
        have hX2 := hX1.below hb2
        have hB2 := below_trans hB1 hb2
        clear q0 q1 q2 q3
        obtain ⟨q0, q1, q2, q3⟩ := id hX2
        go_wp2_with fail
        refine (HNB.out _).mono ?_
        rintro e w3 ⟨rfl, hb3⟩
        have hX3 := hX2.below hb3
        have hB3 := below_trans hB2 hb3
        clear q0 q1 q2 q3
        obtain ⟨q0, q1, q2, q3⟩ := id hX3
        clear hX1 hB1 hX2 hB2 hb2 hb3
        go_upto_region 5 with fail
        refine rtext_reg5 (by kernel_rfl) hX3 hk hv1' ha1 ha2 _ ?_
        intro u48 u49 u50 u51 u52 u53 u54 u55 u56 u57 u58 T w4 hb4 hT
        have hX4 := hX3.below hb4
        have hB4 := below_trans hB3 hb4
        have HT := Lib.hid hT
        clear hX3 hB3 hb4 hT q0 q1 q2 q3
        (try simp only [Exit.then])
        refine ‹∀ (a : Act) (w : World), Code.wp Tryz.prog _ _ a w → _› _ _ ?_
        apply wp_seq_k
        intro _ _
        go_cut [4] from 59 to 66 (fun v4 wx => ∃ T : ByteArray, v4 = .string T ∧ Hid (T.data.toList = Lib.join (headW ⟨at_, k, nm, ns⟩) [32]) ∧ XB xb (.int .i64 at_) (.int .i64 (k : Nat)) (.string ⟨nm.toArray⟩) (.slice na ns.length ncp) wx ∧ Below w.heap.size w wx)
        case first =>
          obtain ⟨q0, q1, q2, q3⟩ := id hX4
          go_wp2_with fail
          refine (HNB.out _).mono ?_
          rintro e w5 ⟨rfl, hb5⟩
          go_wp2_with fail
          go_meet
          exact ⟨_, rfl, by unfold Hid; rw [HHK.out, HT.out], hX4.below hb5, below_trans hB4 hb5⟩
        case rest =>
          obtain ⟨T', rfl, HT', hX6, hB6⟩ := hcut
          refine ‹∀ (a : Act) (w : World), Code.wp Tryz.prog _ _ a w → _› _ _ ?_
          exact rtext_tail (x := ⟨at_, k, nm, ns⟩) (by kernel_rfl) hX6 HN.out hl4 HNI.out HT'.out HHL.out HTR.out hB6
end Go.Proofs.YtkjajpfgdjfcoaaGreatDoor
namespace Go.Proofs.YtkjajpfgdjfcoaaGreatDoor
open Go.RowKit
def sameB (a0 a1 : Int) (an : List UInt8) (la : List Int) (b0 b1 : Int) (bn : List UInt8) (lb : List Int) : Bool := decide (a0 = b0 ∧ a1 = b1 ∧ an = bn ∧ la = lb)
theorem drewN_two (w : World) (q n : Nat) : (w.drewN q).drewN n = w.drewN (q + n) := by
  unfold World.drewN; simp [Nat.add_assoc]
theorem drop_ext {la lb : List Int} (hl : la.length = lb.length) (h : ∀ j, j < la.length → la.getD j 0 = lb.getD j 0) : la = lb := by
  apply List.ext_getElem hl
  intro i h1 h2
  have := h i h1
  rw [List.getD_eq_getElem?_getD, List.getElem?_eq_getElem h1, List.getD_eq_getElem?_getD, List.getElem?_eq_getElem h2] at this
  simpa using this
set_option maxRecDepth 100000 in
set_option maxHeartbeats 4000000 in
theorem same_any (a0 a1 : Int) (an : List UInt8) (av : Value) (la : List Int) (b0 b1 : Int) (bn : List UInt8) (bv : Value) (lb : List Int) (w : World) (ha : RowI w av la) (hb : RowI w bv lb) (hll : la.length ≤ 1048576) :
    Calls Tryz.prog 14 #[.agg #[.int .i64 a0, .int .i64 a1, .string ⟨an.toArray⟩, av], .agg #[.int .i64 b0, .int .i64 b1, .string ⟨bn.toArray⟩, bv]] w fun e w' => e = .returned (.bool (sameB a0 a1 an la b0 b1 bn lb)) ∧ Below w.heap.size w w' := by
  obtain ⟨xa, ca, rfl, hx⟩ := id ha
  clear hx
  obtain ⟨xb, cb, rfl, hx⟩ := id hb
  clear hx
  obtain ⟨W0, hW0⟩ : ∃ W0, (w.alloc (.cells #[.int .i64 a0, .int .i64 a1, .string ⟨an.toArray⟩, .slice xa la.length ca] 84)).alloc (.cells #[.int .i64 b0, .int .i64 b1, .string ⟨bn.toArray⟩, .slice xb lb.length cb] 84) = W0 := ⟨_, rfl⟩
  have hA0 : cellsAt W0 w.heap.size 84 #[.int .i64 a0, .int .i64 a1, .string ⟨an.toArray⟩, .slice xa la.length ca] := by
    rw [← hW0]; exact cellsAt.below (alloc_new w _) (balloc (Below.refl _ _) _)
  have hB0 : cellsAt W0 (w.heap.size + 1) 84 #[.int .i64 b0, .int .i64 b1, .string ⟨bn.toArray⟩, .slice xb lb.length cb] := by
    rw [← hW0]
    have h := alloc_new (w.alloc (.cells #[.int .i64 a0, .int .i64 a1, .string ⟨an.toArray⟩, .slice xa la.length ca] 84)) (.cells #[.int .i64 b0, .int .i64 b1, .string ⟨bn.toArray⟩, .slice xb lb.length cb] 84)
    rw [World.size_alloc] at h
    exact h
  have hB : Below w.heap.size w W0 := by rw [← hW0]; exact balloc (balloc (Below.refl _ _) _) _
  have HW0 := Lib.hid hW0
  have HA := Lib.hid (ha.below hB)
  have HB := Lib.hid (hb.below hB)
  obtain ⟨p0, p1, p2, p3⟩ := cells4 hA0
  obtain ⟨q0, q1, q2, q3⟩ := cells4 hB0
  clear hW0 hA0 hB0 ha hb
  have HS : Hid (sameB a0 a1 an la b0 b1 bn lb = decide (a0 = b0 ∧ a1 = b1 ∧ an = bn ∧ la = lb)) := show _ = _ from rfl
  generalize sameB a0 a1 an la b0 b1 bn lb = sb at *
  go_enter Tryz.func14, Tryz.ntmps14
  go_upto_region 1 with fail
  rw [HW0.out]
  by_cases h0 : a0 = b0
  · have h0b : (a0 != b0) = false := by simp [h0]
    by_cases h1 : a1 = b1
    · have h1b : (a1 != b1) = false := by simp [h1]
      by_cases h2 : an = bn
      · have h2b : (an == bn) = true := by simp [h2]
        by_cases h3 : la.length = lb.length
        · have h3b : ((la.length : Int) != (lb.length : Int)) = false := by simp [h3]
          have HEQ : Hid (sb = decide (la = lb)) := by unfold Hid; rw [HS.out]; simp [h0, h1, h2]
          have HL := Lib.hid h3
          clear h0 h1 h2 h3 HS
          go_wp2_with fail
          go_loopw [5] (fun i wr => ∃ j q : Nat, wr = W0.drewN q ∧ j ≤ la.length ∧ i = .int .i64 j ∧ Hid (∀ i, i < j → la.getD i 0 = lb.getD i 0)) (fun i _ => la.length - (intOf i).toNat)
          case atStart => exact ⟨0, 0, rfl, Nat.zero_le _, rfl, fun i hi => absurd hi (Nat.not_lt_zero _)⟩
          case round =>
            obtain ⟨j, q, rfl, hj, rfl, HJ⟩ := hrel
            by_cases hlt : j < la.length
            · have hlt2 : j < lb.length := by have := HL.out; omega
              obtain ⟨a', c', hac, h0 | ⟨b, off, rfl, hb, hc⟩⟩ := HA.out
              · omega
              obtain ⟨a2, c2, hac2, h0 | ⟨d, off2, rfl, hd, hc2⟩⟩ := HB.out
              · omega
              simp only [Value.slice.injEq] at hac hac2
              obtain ⟨rfl, -, rfl⟩ := hac
              obtain ⟨rfl, -, rfl⟩ := hac2
              have s0 := hc j hlt
              have s1 := hc2 j hlt2
              have HE : Hid (la.getD j 0 ≠ lb.getD j 0 → sb = false) := fun h => by
                rw [HEQ.out, decide_eq_false_iff_not]; intro e; exact h (by rw [e])
              have HJ2 : Hid (la.getD j 0 = lb.getD j 0 → ∀ i, i < j + 1 → la.getD i 0 = lb.getD i 0) := fun h i hi => by
                by_cases e : i = j
                · rw [e]; exact h
                · exact HJ.out i (by omega)
              generalize la.getD j 0 = x at *
              generalize lb.getD j 0 = y at *
              have i1 : (j : Int) < (la.length : Int) := by omega
              have i2 : (j : Int) < (lb.length : Int) := by omega
              clear hc hc2
              by_cases hxy : x = y
              · have hxb : (x != y) = false := by simp [hxy]
                have HJ3 := Lib.hid (HJ2.out hxy)
                clear hxy
                go_wp2_with fail
                go_quiet (fail)
                go_wp2_with fail
                go_roundw
                case rel => exact ⟨j + 1, _, rfl, by have := HL.out; omega, by go_num, HJ3.out⟩
                case measure => (have := HL.out; simp [intOf]; omega)
              · have hxb : (x != y) = true := by simp [hxy]
                have HX := Lib.hid (HE.out hxy)
                clear hxy
                go_wp2_with fail
                go_quiet (fail)
                go_wp2_with fail
                go_ret
                exact ⟨ret_bool HX.out.symm, below_drewN (below_drewN hB _) _⟩
            · obtain rfl : j = la.length := by omega
              have HX : Hid (sb = true) := by
                unfold Hid
                rw [HEQ.out, decide_eq_true_eq]
                exact drop_ext HL.out HJ.out
              go_wp2_with fail
              go_ret
              exact ⟨ret_bool HX.out.symm, below_drewN hB _⟩
        · have h3b : ((la.length : Int) != (lb.length : Int)) = true := by simp; omega
          have HX : Hid (sb = false) := by
            unfold Hid; rw [HS.out, decide_eq_false_iff_not]; rintro ⟨-, -, -, h⟩; exact h3 (by rw [h])
          clear h0 h1 h2 h3 HS
          go_wp2_with fail
          go_ret
          exact ⟨ret_bool HX.out.symm, hB⟩
      · have h2b : (an == bn) = false := by simp [h2]
        have HX : Hid (sb = false) := by
          unfold Hid; rw [HS.out, decide_eq_false_iff_not]; rintro ⟨-, -, h, -⟩; exact h2 h
        clear h0 h1 h2 HS
        go_wp2_with fail
        go_ret
        exact ⟨ret_bool HX.out.symm, hB⟩
    · have h1b : (a1 != b1) = true := by simp [h1]
      have HX : Hid (sb = false) := by
        unfold Hid; rw [HS.out, decide_eq_false_iff_not]; rintro ⟨-, h, -⟩; exact h1 h
      clear h0 h1 HS
      go_wp2_with fail
      go_ret
      exact ⟨ret_bool HX.out.symm, hB⟩
  · have h0b : (a0 != b0) = true := by simp [h0]
    have HX : Hid (sb = false) := by
      unfold Hid; rw [HS.out, decide_eq_false_iff_not]; rintro ⟨h, -⟩; exact h0 h
    clear h0 HS
    go_wp2_with fail
    go_ret
    exact ⟨ret_bool HX.out.symm, hB⟩
end Go.Proofs.YtkjajpfgdjfcoaaGreatDoor
namespace Go.Proofs.YtkjajpfgdjfcoaaGreatDoor
open Go.RowKit Go.Maps Go.Sort Go.Shelf
theorem sameB_refl (a b : Int) (n : List UInt8) (l : List Int) : sameB a b n l a b n l = true := by unfold sameB; simp
theorem line_pair (s : List UInt8) : (lineV numC s, lineE numC s) = (lineV numO s, lineE numO s) := by
  obtain ⟨h1, h2⟩ := line_same s
  rw [h1, h2]
set_option maxRecDepth 100000 in
set_option maxHeartbeats 4000000 in
theorem law_parses (s : List UInt8) (at_ v : Int) (nm : List UInt8) (nv : Value) (ns : List Int) (w : World) (ht : Tab10 w) (hAW : ∀ W, Below w.heap.size w W → Calls Tryz.prog 11 #[] W fun e W' => e = .returned (.bool true) ∧ Below W.heap.size W W')
    (hs : s.length ≤ 8796093022000) (hN : RowI w nv ns) (hNl : ns.length ≤ 1048576) (hNi : ∀ n ∈ ns, -9223372036854775808 ≤ n ∧ n ≤ 9223372036854775807) (hnl : nm.length ≤ 1048576) (ha : -9223372036854775808 ≤ at_ ∧ at_ ≤ 9223372036854775807) :
    Calls Tryz.prog 4 #[.string ⟨s.toArray⟩, .agg #[.int .i64 at_, .int .i64 v, .string ⟨nm.toArray⟩, nv]] w fun e w' => e = .returned (.bool true) ∧ Below w.heap.size w w' := by
  have HPA := Lib.hid (fun W h => parse_any s W h hs)
  have HRP := Lib.hid (fun W => rparse_any s W hs)
  rw [line_pair] at HRP
  have HTX := Lib.hid (fun W h h2 => text_any at_ v nm nv ns W h h2 hNl hNi hnl ha)
  have HRT := Lib.hid (fun W h2 => rtext_any at_ v nm nv ns W h2 hNi hnl)
  have hYL := lineV_len numO s
  obtain ⟨na, ncp, rfl, hx⟩ := id hN
  clear hx
  have HT := Lib.hid ht
  have HN := Lib.hid hN
  have HAW := Lib.hid hAW
  clear ht hN hAW hNi
  generalize (⟨s.toArray⟩ : ByteArray) = S at *
  generalize lineV numO s = Y at *
  generalize lineE numO s = E at *
  obtain ⟨ya, yk, yn, ys⟩ := Y
  obtain ⟨W0, hW0⟩ : ∃ W0, w.alloc (.cells #[.int .i64 at_, .int .i64 v, .string ⟨nm.toArray⟩, .slice na ns.length ncp] 84) = W0 := ⟨_, rfl⟩
  have hC0 : cellsAt W0 w.heap.size 84 #[.int .i64 at_, .int .i64 v, .string ⟨nm.toArray⟩, .slice na ns.length ncp] := by rw [← hW0]; exact alloc_new _ _
  have hB0 : Below w.heap.size w W0 := by rw [← hW0]; exact balloc (Below.refl _ _) _
  have HW0 := Lib.hid hW0
  clear hW0
  go_enter Tryz.func4, Tryz.ntmps4
  go_upto_region 1 with fail
  rw [HW0.out]
  clear HW0
  obtain ⟨xb, hxe⟩ : ∃ xb, xb = w.heap.size := ⟨_, rfl⟩
  rw [← hxe] at hC0 ⊢
  clear hxe
  go_wp2_with fail
  refine (HPA.out _ (HT.out.below hB0)).mono ?_
  rintro e w1 ⟨v1, rfl, hr1, hb1⟩
  simp only at hr1 hYL
  simp only
  have hC1 := hC0.below hb1
  have hB1 := below_trans hB0 hb1
  clear hC0 hB0 hb1
  obtain ⟨va, vc, rfl, hx⟩ := id hr1
  clear hx
  go_upto_region 2 with fail
  have hD2 := alloc_new w1 (.cells #[.int .i64 ya, .int .i64 (yk : Nat), .string ⟨yn.toArray⟩, .slice va ys.length vc] 84)
  have hba := balloc (Below.refl w1.heap.size w1) (.cells #[.int .i64 ya, .int .i64 (yk : Nat), .string ⟨yn.toArray⟩, .slice va ys.length vc] 84)
  have hC2 := hC1.below hba
  have hB2 := below_trans hB1 hba
  have hr2 := hr1.below hba
  generalize w1.alloc (.cells #[.int .i64 ya, .int .i64 (yk : Nat), .string ⟨yn.toArray⟩, .slice va ys.length vc] 84) = w2 at *
  generalize w1.heap.size = ab at *
  have hD2 : cellsAt w2 ab 84 #[.int .i64 ya, .int .i64 (yk : Nat), .string ⟨yn.toArray⟩, .slice va ys.length vc] := hD2
  clear hC1 hB1 hr1 hba
  go_wp2_with fail
  refine (HRP.out _).mono ?_
  rintro e w3 ⟨v3, rfl, hr3, hb3⟩
  simp only at hr3
  simp only
  have hC3 := hC2.below hb3
  have hB3 := below_trans hB2 hb3
  have hD3 := hD2.below hb3
  have hr3a := hr2.below hb3
  clear hC2 hB2 hD2 hr2 hb3
  obtain ⟨vb, vd, rfl, hx⟩ := id hr3
  clear hx
  go_upto_region 3 with fail
  have hE4 := alloc_new w3 (.cells #[.int .i64 ya, .int .i64 (yk : Nat), .string ⟨yn.toArray⟩, .slice vb ys.length vd] 84)
  have hba := balloc (Below.refl w3.heap.size w3) (.cells #[.int .i64 ya, .int .i64 (yk : Nat), .string ⟨yn.toArray⟩, .slice vb ys.length vd] 84)
  have hC4 := hC3.below hba
  have hB4 := below_trans hB3 hba
  have hD4 := hD3.below hba
  have hr4a := hr3a.below hba
  have hr4b := hr3.below hba
  generalize w3.alloc (.cells #[.int .i64 ya, .int .i64 (yk : Nat), .string ⟨yn.toArray⟩, .slice vb ys.length vd] 84) = w4 at *
  generalize w3.heap.size = bb at *
  have hE4 : cellsAt w4 bb 84 #[.int .i64 ya, .int .i64 (yk : Nat), .string ⟨yn.toArray⟩, .slice vb ys.length vd] := hE4
  obtain ⟨p0, p1, p2, p3⟩ := cells4 hD4
  obtain ⟨q0, q1, q2, q3⟩ := cells4 hE4
  have hSM := same_any ya (yk : Nat) yn (.slice va ys.length vc) ys ya (yk : Nat) yn (.slice vb ys.length vd) ys w4 hr4a hr4b (by omega)
  rw [sameB_refl] at hSM
  have HSM := Lib.hid hSM
  clear hC3 hB3 hD3 hr3a hr3 hba hSM hD4 hE4 hr4a hr4b
  go_wp2_with fail
  refine HSM.out.mono ?_
  rintro e w5 ⟨rfl, hb5⟩
  have hC5 := hC4.below hb5
  have hB5 := below_trans hB4 hb5
  clear hC4 hB4 hb5 HSM p0 p1 p2 p3 q0 q1 q2 q3
  obtain ⟨q0, q1, q2, q3⟩ := cells4 hC5
  generalize textR at_ v nm ns = R at *
  obtain ⟨T, F⟩ := R
  go_wp2_with fail
  refine (HTX.out _ (HT.out.below hB5) (HN.out.below hB5)).mono ?_
  rintro e w6 ⟨rfl, hb6⟩
  have hC6 := hC5.below hb6
  have hB6 := below_trans hB5 hb6
  clear hC5 hB5 hb6 q0 q1 q2 q3
  obtain ⟨q0, q1, q2, q3⟩ := cells4 hC6
  simp only
  go_wp2_with fail
  refine (HRT.out _ (HN.out.below hB6)).mono ?_
  rintro e w7 ⟨rfl, hb7⟩
  have hB7 := below_trans hB6 hb7
  simp only
  go_wp2_with fail
  refine (HAW.out _ hB7).mono ?_
  rintro e w8 ⟨rfl, hb8⟩
  go_wp2_with fail
  go_ret
  exact ⟨rfl, below_trans hB7 hb8⟩
theorem textR_cases (at_ v : Int) (nm : List UInt8) (ns : List Int) : textR at_ v nm ns = ([], 2) ∨ ∃ k : Nat, v = (k : Int) ∧ okOL ⟨at_, k, nm, ns⟩ = true ∧ textR at_ v nm ns = (lineT ⟨at_, k, nm, ns⟩, 0) := by
  unfold textR
  cases ho : outI v 1 17 with
  | true => exact .inl rfl
  | false =>
    have hv := outI_false.1 ho
    obtain ⟨k, rfl⟩ : ∃ k : Nat, v = (k : Int) := ⟨v.toNat, by omega⟩
    rw [show (((k : Nat) : Int)).toNat = k from rfl]
    cases hk : okOL ⟨at_, k, nm, ns⟩ with
    | true => exact .inr ⟨k, rfl, hk, rfl⟩
    | false => exact .inl rfl
theorem okOL_parts {x : OL} (h : okOL x = true) : (0 ≤ x.at_ ∧ x.at_ ≤ 100000) ∧ (1 ≤ x.verb ∧ x.verb ≤ 17) ∧ x.name.length ≤ 24 ∧ (∀ n ∈ x.nums, -1000000000000 ≤ n ∧ n ≤ 1000000000000) ∧ (lineT x).length ≤ 120 := by
  unfold okOL at h
  simp only [Bool.and_eq_true, Bool.not_eq_true', decide_eq_true_eq, List.all_eq_true] at h
  obtain ⟨⟨⟨⟨⟨h1, h2⟩, h3⟩, h4⟩, h5⟩, h6⟩ := h
  refine ⟨outI_false.1 h1, h2, ?_, fun n hn => outI_false.1 (by simpa using h5 n hn), h6⟩
  split at h4
  · unfold nameB at h4
    simp only [Bool.and_eq_true, decide_eq_true_eq] at h4
    exact h4.2
  · simp only [decide_eq_true_eq] at h4
    rw [h4]; simp
theorem textR_ok {x : OL} (h : okOL x = true) : textR x.at_ (x.verb : Nat) x.name x.nums = (lineT x, 0) := by
  obtain ⟨_, h2, _⟩ := okOL_parts h
  unfold textR
  rw [if_neg (by rw [outI_false.2 ⟨by omega, by omega⟩]; simp), show (((x.verb : Nat) : Int)).toNat = x.verb from rfl]
  rw [if_pos h]
set_option maxRecDepth 100000 in
set_option maxHeartbeats 4000000 in
theorem law_lines (s : List UInt8) (at_ v : Int) (nm : List UInt8) (nv : Value) (ns : List Int) (w : World) (ht : Tab10 w) (hAW : ∀ W, Below w.heap.size w W → Calls Tryz.prog 11 #[] W fun e W' => e = .returned (.bool true) ∧ Below W.heap.size W W')
    (hs : s.length ≤ 8796093022000) (hN : RowI w nv ns) (hNl : ns.length ≤ 1048576) (hNi : ∀ n ∈ ns, -9223372036854775808 ≤ n ∧ n ≤ 9223372036854775807) (hnl : nm.length ≤ 1048576) (ha : -9223372036854775808 ≤ at_ ∧ at_ ≤ 9223372036854775807) :
    Calls Tryz.prog 5 #[.string ⟨s.toArray⟩, .agg #[.int .i64 at_, .int .i64 v, .string ⟨nm.toArray⟩, nv]] w fun e w' => e = .returned (.bool true) ∧ Below w.heap.size w w' := by
  have HPA := Lib.hid (fun W h => parse_any s W h hs)
  have HTX := Lib.hid (fun W h h2 => text_any at_ v nm nv ns W h h2 hNl hNi hnl ha)
  have hYL := lineV_len numO s
  have HOK : Hid (lineE numO s = 0 → True ∧ ∀ (vy : Value) (W : World), Tab10 W → RowI W vy (lineV numO s).nums → Calls Tryz.prog 15 #[.agg #[.int .i64 (lineV numO s).at_, .int .i64 ((lineV numO s).verb : Nat), .string ⟨(lineV numO s).name.toArray⟩, vy]] W (TextEnd W (s, 0))) := fun hE => by
    obtain ⟨h1, h2⟩ := written_read hE
    obtain ⟨k1, k2, k3, k4, k5⟩ := okOL_parts h1
    refine ⟨trivial, fun vy W h hr => ?_⟩
    have := text_any (lineV numO s).at_ ((lineV numO s).verb : Nat) (lineV numO s).name vy (lineV numO s).nums W h hr (by omega) (fun n hn => by have := k4 n hn; omega) (by omega) (by omega)
    rw [textR_ok h1, h2] at this
    exact this
  have HTC := Lib.hid (textR_cases at_ v nm ns)
  obtain ⟨na, ncp, rfl, hx⟩ := id hN
  clear hx
  have HT := Lib.hid ht
  have HN := Lib.hid hN
  have HAW := Lib.hid hAW
  clear ht hN hAW hNi
  have hss : (⟨s.toArray⟩ : ByteArray).toList = s := by rw [ByteArray.toList_eq]
  generalize lineV numO s = Y at *
  generalize lineE numO s = E at *
  obtain ⟨ya, yk, yn, ys⟩ := Y
  simp only at HOK hYL
  obtain ⟨W0, hW0⟩ : ∃ W0, w.alloc (.cells #[.int .i64 at_, .int .i64 v, .string ⟨nm.toArray⟩, .slice na ns.length ncp] 84) = W0 := ⟨_, rfl⟩
  have hC0 : cellsAt W0 w.heap.size 84 #[.int .i64 at_, .int .i64 v, .string ⟨nm.toArray⟩, .slice na ns.length ncp] := by rw [← hW0]; exact alloc_new _ _
  have hB0 : Below w.heap.size w W0 := by rw [← hW0]; exact balloc (Below.refl _ _) _
  have HW0 := Lib.hid hW0
  clear hW0
  go_enter Tryz.func5, Tryz.ntmps5
  go_upto_region 1 with fail
  rw [HW0.out]
  clear HW0
  obtain ⟨xb, hxe⟩ : ∃ xb, xb = w.heap.size := ⟨_, rfl⟩
  rw [← hxe] at hC0 ⊢
  clear hxe
  obtain ⟨q0, q1, q2, q3⟩ := cells4 hC0
  go_wp2_with fail
  refine (HTX.out _ (HT.out.below hB0) (HN.out.below hB0)).mono ?_
  rintro e w1 ⟨rfl, hb1⟩
  have hC1 := hC0.below hb1
  have hB1 := below_trans hB0 hb1
  clear hC0 hB0 hb1 q0 q1 q2 q3
  rcases HTC.out with hR | ⟨k, rfl, hok, hR⟩
  · rw [hR]
    simp only
    go_wp2_with fail
    refine (HPA.out _ (HT.out.below hB1)).mono ?_
    rintro e w4 ⟨v4, rfl, hr4, hb4⟩
    simp only at hr4
    simp only
    have hC4 := (hC1).below hb4
    have hB4 := below_trans hB1 hb4
    clear hC1 hB1 hb4
    obtain ⟨va, vc, rfl, hx⟩ := id hr4
    clear hx
    go_upto_region 7 with fail
    have hD5 := alloc_new w4 (.cells #[.int .i64 ya, .int .i64 (yk : Nat), .string ⟨yn.toArray⟩, .slice va ys.length vc] 84)
    have hba := balloc (Below.refl w4.heap.size w4) (.cells #[.int .i64 ya, .int .i64 (yk : Nat), .string ⟨yn.toArray⟩, .slice va ys.length vc] 84)
    have hB5 := below_trans hB4 hba
    have hr5 := hr4.below hba
    generalize w4.alloc (.cells #[.int .i64 ya, .int .i64 (yk : Nat), .string ⟨yn.toArray⟩, .slice va ys.length vc] 84) = w5 at *
    generalize w4.heap.size = yb at *
    have hD5 : cellsAt w5 yb 84 #[.int .i64 ya, .int .i64 (yk : Nat), .string ⟨yn.toArray⟩, .slice va ys.length vc] := hD5
    clear hC4 hB4 hr4 hba
    obtain ⟨q0, q1, q2, q3⟩ := cells4 hD5
    by_cases hE : E = 0
    · have hEb : (E != 0) = false := by simp [hE]
      obtain ⟨hK, HTY⟩ := HOK.out hE
      have HTY := Lib.hid (fun W h h2 => HTY (.slice va ys.length vc) W h h2)
      clear hE
      go_wp2_with fail
      refine (HTY.out _ (HT.out.below hB5) hr5).mono ?_
      rintro e w6 ⟨rfl, hb6⟩
      have hB6 := below_trans hB5 hb6
      simp only
      go_wp2_with fail
      refine (HAW.out _ hB6).mono ?_
      rintro e w8 ⟨rfl, hb8⟩
      go_wp2_with fail
      go_ret
      exact ⟨rfl, below_trans hB6 hb8⟩
    · have hEb : (E != 0) = true := by simp [hE]
      clear hE
      go_wp2_with fail
      refine (HAW.out _ hB5).mono ?_
      rintro e w8 ⟨rfl, hb8⟩
      go_wp2_with fail
      go_ret
      exact ⟨rfl, below_trans hB5 hb8⟩
  · rw [hR]
    simp only
    obtain ⟨k1, k2, k3, k4, k5⟩ := okOL_parts hok
    obtain ⟨e1, e2⟩ := read_written hok
    have hPT := fun W h => parse_any (lineT ⟨at_, k, nm, ns⟩) W h (by omega)
    rw [e1, e2] at hPT
    have HPT := Lib.hid hPT
    have hTs : ¬ (120 : Int) < ((⟨(lineT ⟨at_, k, nm, ns⟩).toArray⟩ : ByteArray).size : Int) := by
      have : (⟨(lineT ⟨at_, k, nm, ns⟩).toArray⟩ : ByteArray).size = (lineT ⟨at_, k, nm, ns⟩).length := by simp [ByteArray.size]
      omega
    generalize (⟨(lineT ⟨at_, k, nm, ns⟩).toArray⟩ : ByteArray) = T at *
    clear hPT e1 e2 hR hok HTC HTX
    go_wp2_with fail
    refine (HPT.out _ (HT.out.below hB1)).mono ?_
    rintro e w2 ⟨v2, rfl, hr2, hb2⟩
    simp only at hr2
    simp only
    have hC2 := hC1.below hb2
    have hB2 := below_trans hB1 hb2
    clear hC1 hB1 hb2
    obtain ⟨vb, vd, rfl, hx⟩ := id hr2
    clear hx
    go_upto_region 4 with fail
    have hE3 := alloc_new w2 (.cells #[.int .i64 at_, .int .i64 (k : Nat), .string ⟨nm.toArray⟩, .slice vb ns.length vd] 84)
    have hba := balloc (Below.refl w2.heap.size w2) (.cells #[.int .i64 at_, .int .i64 (k : Nat), .string ⟨nm.toArray⟩, .slice vb ns.length vd] 84)
    have hC3 := hC2.below hba
    have hB3 := below_trans hB2 hba
    have hr3 := hr2.below hba
    generalize w2.alloc (.cells #[.int .i64 at_, .int .i64 (k : Nat), .string ⟨nm.toArray⟩, .slice vb ns.length vd] 84) = w3 at *
    generalize w2.heap.size = bb at *
    have hE3 : cellsAt w3 bb 84 #[.int .i64 at_, .int .i64 (k : Nat), .string ⟨nm.toArray⟩, .slice vb ns.length vd] := hE3
    obtain ⟨p0, p1, p2, p3⟩ := cells4 hC3
    obtain ⟨q0, q1, q2, q3⟩ := cells4 hE3
    have hSM := same_any at_ (k : Nat) nm (.slice na ns.length ncp) ns at_ (k : Nat) nm (.slice vb ns.length vd) ns w3 (HN.out.below hB3) hr3 hNl
    rw [sameB_refl] at hSM
    have HSM := Lib.hid hSM
    clear hC2 hB2 hr2 hba hSM hE3 hr3
    go_wp2_with fail
    refine HSM.out.mono ?_
    rintro e w3' ⟨rfl, hb3⟩
    have hC3' := hC3.below hb3
    have hB3' := below_trans hB3 hb3
    clear hC3 hB3 hb3 HSM p0 p1 p2 p3 q0 q1 q2 q3
    go_wp2_with fail
    refine (HPA.out _ (HT.out.below hB3')).mono ?_
    rintro e w4 ⟨v4, rfl, hr4, hb4⟩
    simp only at hr4
    simp only
    have hC4 := (hC3').below hb4
    have hB4 := below_trans hB3' hb4
    clear hC3' hB3' hb4
    obtain ⟨va, vc, rfl, hx⟩ := id hr4
    clear hx
    go_upto_region 7 with fail
    have hD5 := alloc_new w4 (.cells #[.int .i64 ya, .int .i64 (yk : Nat), .string ⟨yn.toArray⟩, .slice va ys.length vc] 84)
    have hba := balloc (Below.refl w4.heap.size w4) (.cells #[.int .i64 ya, .int .i64 (yk : Nat), .string ⟨yn.toArray⟩, .slice va ys.length vc] 84)
    have hB5 := below_trans hB4 hba
    have hr5 := hr4.below hba
    generalize w4.alloc (.cells #[.int .i64 ya, .int .i64 (yk : Nat), .string ⟨yn.toArray⟩, .slice va ys.length vc] 84) = w5 at *
    generalize w4.heap.size = yb at *
    have hD5 : cellsAt w5 yb 84 #[.int .i64 ya, .int .i64 (yk : Nat), .string ⟨yn.toArray⟩, .slice va ys.length vc] := hD5
    clear hC4 hB4 hr4 hba
    obtain ⟨q0, q1, q2, q3⟩ := cells4 hD5
    by_cases hE : E = 0
    · have hEb : (E != 0) = false := by simp [hE]
      obtain ⟨hK, HTY⟩ := HOK.out hE
      have HTY := Lib.hid (fun W h h2 => HTY (.slice va ys.length vc) W h h2)
      clear hE
      go_wp2_with fail
      refine (HTY.out _ (HT.out.below hB5) hr5).mono ?_
      rintro e w6 ⟨rfl, hb6⟩
      have hB6 := below_trans hB5 hb6
      simp only
      go_wp2_with fail
      refine (HAW.out _ hB6).mono ?_
      rintro e w8 ⟨rfl, hb8⟩
      go_wp2_with fail
      go_ret
      exact ⟨rfl, below_trans hB6 hb8⟩
    · have hEb : (E != 0) = true := by simp [hE]
      clear hE
      go_wp2_with fail
      refine (HAW.out _ hB5).mono ?_
      rintro e w8 ⟨rfl, hb8⟩
      go_wp2_with fail
      go_ret
      exact ⟨rfl, below_trans hB5 hb8⟩
end Go.Proofs.YtkjajpfgdjfcoaaGreatDoor
