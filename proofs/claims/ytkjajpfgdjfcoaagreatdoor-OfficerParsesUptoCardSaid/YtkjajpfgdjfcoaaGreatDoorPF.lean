/- Walks: the document's Parse. -/
import Derived.Test.YtkjajpfgdjfcoaaGreatDoorPD
import Derived.Test.YtkjajpfgdjfcoaaGreatDoorPE
set_option linter.unusedVariables false
set_option linter.unusedSimpArgs false
namespace Go.Proofs.YtkjajpfgdjfcoaaGreatDoor
open Go.RowKit
/-- the document's words lie at block b -/
structure RVerbsAt (w : World) (b : Nat) : Prop where
  cell : ∀ i x, wordCells[i]? = some x → w.cell? ⟨b, i, none⟩ = some x
  hb : b < w.heap.size
theorem RVerbsAt.below {w w' : World} {b : Nat} (h : RVerbsAt w b) (hb : Below w.heap.size w w') : RVerbsAt w' b :=
  ⟨fun i x hx => by rw [hb.cell (p := ⟨b, i, none⟩) h.hb]; exact h.cell i x hx, Nat.lt_of_lt_of_le h.hb hb.size⟩
theorem rverbs_new (w : World) : RVerbsAt (w.alloc (.cells ⟨wordCells⟩ 9)) w.heap.size := by
  refine ⟨fun i x hx => ?_, by simp⟩
  have hn : (w.alloc (.cells ⟨wordCells⟩ 9)).heap[w.heap.size]? = some (.cells ⟨wordCells⟩ 9 (0, 0)) := alloc_new w _
  unfold World.cell?
  simp only [hn]
  simpa using hx
theorem RVerbsAt.at_ {w : World} {b : Nat} (h : RVerbsAt w b) {k : Nat} (hk : k < 18) : w.cell? ⟨b, k, none⟩ = some (.string ⟨(wordN k).toArray⟩) := by
  refine h.cell k _ ?_
  have hl : k < verbW.length := hk
  unfold wordCells wordN
  rw [List.getElem?_map, List.getElem?_eq_getElem hl, List.getD_eq_getElem?_getD, List.getElem?_eq_getElem hl]
  rfl
/-- what the test reads -/
structure T11 (g : Nat) (u : List UInt8) (w : World) : Prop where
  c : w.cell? ⟨g, 2, none⟩ = some (.string ⟨u.toArray⟩)
theorem T11.below {g : Nat} {u : List UInt8} {w w' : World} (h : T11 g u w) (hb : Below w.heap.size w w') : T11 g u w' :=
  ⟨(hb.cell (World.block_lt_of_cell? w _ h.c)).trans h.c⟩
structure T12 (g b : Nat) (u : List UInt8) (w : World) : Prop where
  s : T11 g u w
  v : RVerbsAt w b
set_option maxRecDepth 100000 in
set_option maxHeartbeats 4000000 in
theorem rparse_reg11 {c : Code} (hc : c = rgOf Tryz.f13 11) {wc : World} {g m cap k : Nat} {u : List UInt8} {Q : Exit → Act → World → Prop}
  (hS : T11 g u wc) (hk : k < 18) (hm : 2 < m)
  {v0 v1 v2 v3 v5 v6 v7 v9 v10 v11 v12 v13 v14 v15 v16 v17 v18 v19 v20 v21 v22 v23 v24 v25 v26 v27 v28 v29 v30 v31 v32 v33 v34 v35 v36 v37 v38 v39 v40 v41 v42 v43 v44 v45 v46 v47 v48 v49 v50 v51 v52 v53 v54 v55 v56 v57 v58 v59 v60 v61 v62 v63 v64 v65 v66 v67 v68 v69 v70 v71 v72 v73 v74 v75 v76 v77 v78 v79 v80 v81 v82 v83 v84 v85 v86 v87 v88 v89 v90 v91 v92 v93 v94 v95 v96 v97 v98 v99 v100 v101 v102 v103 v104 v105 v106 v107 v108 v109 v110 v111 v112 v113 v114 v115 v116 v117 v118 v119 v120 v121 v122 v123 v124 v125 v126 : Value}
  (hK : ∀ (u45 u46 u47 u48 u49 u50 u51 : Value) (w' : World), Below wc.heap.size wc w' →
    Q Exit.normal { tmps := #[v0, v1, v2, v3, .slice (some ⟨g, 0, none⟩) m cap, v5, v6, v7, .int .i64 (k : Nat), v9, v10, v11, v12, v13, v14, v15, v16, v17, v18, v19, v20, v21, v22, v23, v24, v25, v26, v27, v28, v29, v30, v31, v32, v33, v34, v35, v36, v37, v38, v39, v40, v41, v42, v43, v44, u45, u46, u47, u48, u49, u50, u51, .bool (wordN k == u), v53, v54, v55, v56, v57, v58, v59, v60, v61, v62, v63, v64, v65, v66, v67, v68, v69, v70, v71, v72, v73, v74, v75, v76, v77, v78, v79, v80, v81, v82, v83, v84, v85, v86, v87, v88, v89, v90, v91, v92, v93, v94, v95, v96, v97, v98, v99, v100, v101, v102, v103, v104, v105, v106, v107, v108, v109, v110, v111, v112, v113, v114, v115, v116, v117, v118, v119, v120, v121, v122, v123, v124, v125, v126], defers := [] } w') :
  Code.wp Tryz.prog c Q { tmps := #[v0, v1, v2, v3, .slice (some ⟨g, 0, none⟩) m cap, v5, v6, v7, .int .i64 (k : Nat), v9, v10, v11, v12, v13, v14, v15, v16, v17, v18, v19, v20, v21, v22, v23, v24, v25, v26, v27, v28, v29, v30, v31, v32, v33, v34, v35, v36, v37, v38, v39, v40, v41, v42, v43, v44, v45, v46, v47, v48, v49, v50, v51, v52, v53, v54, v55, v56, v57, v58, v59, v60, v61, v62, v63, v64, v65, v66, v67, v68, v69, v70, v71, v72, v73, v74, v75, v76, v77, v78, v79, v80, v81, v82, v83, v84, v85, v86, v87, v88, v89, v90, v91, v92, v93, v94, v95, v96, v97, v98, v99, v100, v101, v102, v103, v104, v105, v106, v107, v108, v109, v110, v111, v112, v113, v114, v115, v116, v117, v118, v119, v120, v121, v122, v123, v124, v125, v126], defers := [] } wc := by
  subst hc
  conv => arg 2; whnf
  have HKK := Lib.hid hK
  clear hK
  have j2 : (k : Int) < 18 := by omega
  have j3 : (2 : Int) < (m : Int) := by omega
  have hB : Below wc.heap.size wc wc.drew := (Below.refl _ _).drew
  have hH : T11 g u wc.drew := hS.below hB
  clear hS
  refine wp_region_noPanic ?_
  refine wp_region_held_drew (S := T11 g u) (by kernel_rfl) hH (fun _ => ?_)
  first | (refine wpAnyH_take (i := 1) (v := ?_) rfl (by kernel_rfl) (by kernel_rfl) (by kernel_rfl) (fun _ _ _ h => h) (Or.inl ⟨by rfl, ?_⟩) hH ?_; rotate_left; (focus (intro w' hSw; obtain ⟨z0⟩ := hSw; (try have s0 := zv.at_ hk); go_simp; (try with_reducible rfl); done)); (try simp only [Act.put, List.setIfInBounds_toArray, List.set_cons_zero, List.set_cons_succ, List.getElem_toArray, List.getElem_cons_succ, List.getElem_cons_zero])) | (refine wpAnyH_take (i := 1) (v := undef) rfl (by kernel_rfl) (by kernel_rfl) (by kernel_rfl) (fun _ _ _ h => h) (Or.inr ⟨by rfl, rfl⟩) hH ?_; (try simp only [Act.put, List.setIfInBounds_toArray, List.set_cons_zero, List.set_cons_succ, List.getElem_toArray, List.getElem_cons_succ, List.getElem_cons_zero]))
  first | (refine wpAnyH_take (i := 4) (v := ?_) rfl (by kernel_rfl) (by kernel_rfl) (by kernel_rfl) (fun _ _ _ h => h) (Or.inl ⟨by rfl, ?_⟩) hH ?_; rotate_left; (focus (intro w' hSw; obtain ⟨z0⟩ := hSw; (try have s0 := zv.at_ hk); go_simp; (try with_reducible rfl); done)); (try simp only [Act.put, List.setIfInBounds_toArray, List.set_cons_zero, List.set_cons_succ, List.getElem_toArray, List.getElem_cons_succ, List.getElem_cons_zero])) | (refine wpAnyH_take (i := 4) (v := undef) rfl (by kernel_rfl) (by kernel_rfl) (by kernel_rfl) (fun _ _ _ h => h) (Or.inr ⟨by rfl, rfl⟩) hH ?_; (try simp only [Act.put, List.setIfInBounds_toArray, List.set_cons_zero, List.set_cons_succ, List.getElem_toArray, List.getElem_cons_succ, List.getElem_cons_zero]))
  first | (refine wpAnyH_take (i := 5) (v := ?_) rfl (by kernel_rfl) (by kernel_rfl) (by kernel_rfl) (fun _ _ _ h => h) (Or.inl ⟨by rfl, ?_⟩) hH ?_; rotate_left; (focus (intro w' hSw; obtain ⟨z0⟩ := hSw; (try have s0 := zv.at_ hk); go_simp; (try with_reducible rfl); done)); (try simp only [Act.put, List.setIfInBounds_toArray, List.set_cons_zero, List.set_cons_succ, List.getElem_toArray, List.getElem_cons_succ, List.getElem_cons_zero])) | (refine wpAnyH_take (i := 5) (v := undef) rfl (by kernel_rfl) (by kernel_rfl) (by kernel_rfl) (fun _ _ _ h => h) (Or.inr ⟨by rfl, rfl⟩) hH ?_; (try simp only [Act.put, List.setIfInBounds_toArray, List.set_cons_zero, List.set_cons_succ, List.getElem_toArray, List.getElem_cons_succ, List.getElem_cons_zero]))
  first | (refine wpAnyH_take (i := 6) (v := ?_) rfl (by kernel_rfl) (by kernel_rfl) (by kernel_rfl) (fun _ _ _ h => h) (Or.inl ⟨by rfl, ?_⟩) hH ?_; rotate_left; (focus (intro w' hSw; obtain ⟨z0⟩ := hSw; (try have s0 := zv.at_ hk); go_simp; (try with_reducible rfl); done)); (try simp only [Act.put, List.setIfInBounds_toArray, List.set_cons_zero, List.set_cons_succ, List.getElem_toArray, List.getElem_cons_succ, List.getElem_cons_zero])) | (refine wpAnyH_take (i := 6) (v := undef) rfl (by kernel_rfl) (by kernel_rfl) (by kernel_rfl) (fun _ _ _ h => h) (Or.inr ⟨by rfl, rfl⟩) hH ?_; (try simp only [Act.put, List.setIfInBounds_toArray, List.set_cons_zero, List.set_cons_succ, List.getElem_toArray, List.getElem_cons_succ, List.getElem_cons_zero]))
  refine wpAnyH_ready (rs := [0]) (by kernel_rfl) (by simp) (AllReadyH.cons rfl (fun K' hK' => ?_) AllReadyH.nil)
  go_simp
  refine (rverbs_any _).mono ?_
  rintro e w1 ⟨rfl, hw1⟩
  (try dsimp only)
  have hV1 := rverbs_new wc.drew
  have hb1 : Below wc.drew.heap.size wc.drew w1 := by rw [hw1]; exact balloc (Below.refl _ _) _
  have hB1 := below_trans hB hb1
  have hH1 := hH.below hb1
  have hG : T12 g wc.heap.size u w1 := ⟨hH1, by rw [hw1]; exact hV1⟩
  clear hw1 hV1 hb1
  refine hK'.out _ _ hH1 (fun _ => ?_)
  refine wpAnyH_weaken (S' := T12 g wc.heap.size u) (fun _ h => h.s) _ _ _ _ ?_
  clear hK' K'
  (try simp only [Act.put, List.setIfInBounds_toArray, List.set_cons_zero, List.set_cons_succ, List.getElem_toArray, List.getElem_cons_succ, List.getElem_cons_zero])
  first | (refine wpAnyH_take (i := 2) (v := ?_) rfl (by kernel_rfl) (by kernel_rfl) (by kernel_rfl) (fun _ _ _ h => h) (Or.inl ⟨by rfl, ?_⟩) hG ?_; rotate_left; (focus (intro w' hSw; obtain ⟨⟨z0⟩, zv⟩ := hSw; (try have s0 := zv.at_ hk); go_simp; (try with_reducible rfl); done)); (try simp only [Act.put, List.setIfInBounds_toArray, List.set_cons_zero, List.set_cons_succ, List.getElem_toArray, List.getElem_cons_succ, List.getElem_cons_zero])) | (refine wpAnyH_take (i := 2) (v := undef) rfl (by kernel_rfl) (by kernel_rfl) (by kernel_rfl) (fun _ _ _ h => h) (Or.inr ⟨by rfl, rfl⟩) hG ?_; (try simp only [Act.put, List.setIfInBounds_toArray, List.set_cons_zero, List.set_cons_succ, List.getElem_toArray, List.getElem_cons_succ, List.getElem_cons_zero]))
  first | (refine wpAnyH_take (i := 3) (v := ?_) rfl (by kernel_rfl) (by kernel_rfl) (by kernel_rfl) (fun _ _ _ h => h) (Or.inl ⟨by rfl, ?_⟩) hG ?_; rotate_left; (focus (intro w' hSw; obtain ⟨⟨z0⟩, zv⟩ := hSw; (try have s0 := zv.at_ hk); go_simp; (try with_reducible rfl); done)); (try simp only [Act.put, List.setIfInBounds_toArray, List.set_cons_zero, List.set_cons_succ, List.getElem_toArray, List.getElem_cons_succ, List.getElem_cons_zero])) | (refine wpAnyH_take (i := 3) (v := undef) rfl (by kernel_rfl) (by kernel_rfl) (by kernel_rfl) (fun _ _ _ h => h) (Or.inr ⟨by rfl, rfl⟩) hG ?_; (try simp only [Act.put, List.setIfInBounds_toArray, List.set_cons_zero, List.set_cons_succ, List.getElem_toArray, List.getElem_cons_succ, List.getElem_cons_zero]))
  first | (refine wpAnyH_take (i := 7) (v := ?_) rfl (by kernel_rfl) (by kernel_rfl) (by kernel_rfl) (fun _ _ _ h => h) (Or.inl ⟨by rfl, ?_⟩) hG ?_; rotate_left; (focus (intro w' hSw; obtain ⟨⟨z0⟩, zv⟩ := hSw; (try have s0 := zv.at_ hk); go_simp; (try with_reducible rfl); done)); (try simp only [Act.put, List.setIfInBounds_toArray, List.set_cons_zero, List.set_cons_succ, List.getElem_toArray, List.getElem_cons_succ, List.getElem_cons_zero])) | (refine wpAnyH_take (i := 7) (v := undef) rfl (by kernel_rfl) (by kernel_rfl) (by kernel_rfl) (fun _ _ _ h => h) (Or.inr ⟨by rfl, rfl⟩) hG ?_; (try simp only [Act.put, List.setIfInBounds_toArray, List.set_cons_zero, List.set_cons_succ, List.getElem_toArray, List.getElem_cons_succ, List.getElem_cons_zero]))
  refine wpAnyH_done (by kernel_rfl) (NoPanic.normal ?_) _
  (try simp only [Act.put, List.setIfInBounds_toArray, List.set_cons_zero, List.set_cons_succ, List.getElem_toArray, List.getElem_cons_succ, List.getElem_cons_zero])
  exact HKK.out _ _ _ _ _ _ _ _ hB1
end Go.Proofs.YtkjajpfgdjfcoaaGreatDoor
namespace Go.Proofs.YtkjajpfgdjfcoaaGreatDoor
open Go.RowKit
def numsP (n : Int) (k : Nat) (nm : List UInt8) : Option (List Int) → OL × Int
  | none => (zeroOL, 6)
  | some ns => if farB ⟨n, k, nm, ns⟩ then (zeroOL, 7) else (⟨n, k, nm, ns⟩, 0)
theorem tailP_eq (num : List UInt8 → Option Int) (n : Int) (k : Nat) (nm : List UInt8) (rs : List (List UInt8)) : tailP num n k nm rs = if rs.length = manyN k then numsP n k nm (rs.mapM num) else (zeroOL, 6) := by
  unfold tailP numsOf
  by_cases h : rs.length = manyN k
  · rw [if_pos h, if_pos h]; cases rs.mapM num <;> rfl
  · rw [if_neg h, if_neg h]
theorem any_snoc {α : Type} (p : α → Bool) (l : List α) (a : α) : (l ++ [a]).any p = (l.any p || p a) := by simp
set_option maxRecDepth 100000 in
set_option maxHeartbeats 4000000 in
theorem rparse_tail {c : Code} (hc : c = frOf Tryz.f13 20) {w wc : World} {xb yb g off cap k : Nat} {n : Int} {nm : List UInt8} {rs : List (List UInt8)}
  (hZ : cellsAt wc xb 84 #[.int .i64 0, .int .i64 0, .string ⟨#[]⟩, .slice none 0 0]) (hX : cellsAt wc yb 84 #[.int .i64 n, .int .i64 (k : Nat), .string ⟨nm.toArray⟩, .slice none 0 0]) (hR : WRow wc g off rs)
  (hB : Below w.heap.size w wc) (hxb : w.heap.size ≤ xb) (hyb : w.heap.size ≤ yb) (hxy : xb ≠ yb) (hyg : yb ≠ g) (hk : k < 18) (hrl : rs.length ≤ 1000) (hrs : ∀ r ∈ rs, r.length ≤ 120)
  {v0 v1 v3 v4 v6 v8 v10 v11 v12 v13 v14 v15 v16 v17 v18 v19 v20 v21 v22 v23 v24 v25 v26 v27 v28 v29 v30 v31 v32 v33 v34 v35 v36 v37 v38 v39 v40 v41 v42 v43 v44 v45 v46 v47 v48 v49 v50 v51 v52 v53 v54 v55 v56 v57 v58 v59 v60 v61 v62 v63 v64 v65 v66 v67 v68 v69 v70 v71 v72 v73 v74 v75 v76 v77 v78 v79 v80 v81 v82 v83 v84 v85 v86 v87 v88 v89 v90 v91 v92 v93 v94 v95 v96 v97 v98 v99 v100 v101 v102 v103 v104 v105 v106 v107 v108 v109 v110 v111 v112 v113 v114 v115 v116 v117 v118 v119 v120 v121 v122 v123 v124 v125 v126 : Value} :
  Code.wp Tryz.prog c (bodyPost Tryz.prog Tryz.f13 (LineEnd w (tailP numC n k nm rs))) { tmps := #[v0, v1, .pointer (some ⟨xb, 0, none⟩), v3, v4, .int .i64 n, v6, .pointer (some ⟨yb, 0, none⟩), v8, .slice (some ⟨g, off, none⟩) rs.length cap, v10, v11, v12, v13, v14, v15, v16, v17, v18, v19, v20, v21, v22, v23, v24, v25, v26, v27, v28, v29, v30, v31, v32, v33, v34, v35, v36, v37, v38, v39, v40, v41, v42, v43, v44, v45, v46, v47, v48, v49, v50, v51, v52, v53, v54, v55, v56, v57, v58, v59, v60, v61, v62, v63, v64, v65, v66, v67, v68, v69, v70, v71, v72, v73, v74, v75, v76, v77, v78, v79, v80, v81, v82, v83, v84, v85, v86, v87, v88, v89, v90, v91, v92, v93, v94, v95, v96, v97, v98, v99, v100, v101, v102, v103, v104, v105, v106, v107, v108, v109, v110, v111, v112, v113, v114, v115, v116, v117, v118, v119, v120, v121, v122, v123, v124, v125, v126], defers := [] } wc := by
  subst hc
  conv => arg 2; whnf
  obtain ⟨i0, hi, hz0, hz1, hz2⟩ := info_parts Tryz.info3
  have HTV := Lib.hid (tailP_eq numC n k nm rs)
  generalize tailP numC n k nm rs = tv at *
  have HMA := Lib.hid (fun W => rmany_any k hk W)
  generalize manyN k = m at *
  obtain ⟨q0, q1, q2, q3⟩ := cells4 hX
  obtain ⟨p0, p1, p2, p3⟩ := cells4 hZ
  obtain ⟨z0, z1, z2, z3⟩ := frz4 hZ
  have hxl := hX.lt
  have hzl := hZ.lt
  have hgl := hR.hg
  have hRI := Lib.hid (fun n lo hi W => rin_any n lo hi W)
  go_wp2_with fail
  refine (HMA.out _).mono ?_
  rintro e w1 ⟨rfl, hb1⟩
  have hX1 := hX.below hb1
  have hZ1 := hZ.below hb1
  have HR1 := Lib.hid (hR.below hb1)
  have hB1 := below_trans hB hb1
  have hs1 := hb1.size
  clear q0 q1 q2 q3 p0 p1 p2 p3 z0 z1 z2 z3 hX hZ hR hB hb1 HMA
  obtain ⟨q0, q1, q2, q3⟩ := cells4 hX1
  obtain ⟨p0, p1, p2, p3⟩ := cells4 hZ1
  obtain ⟨z0, z1, z2, z3⟩ := frz4 hZ1
  by_cases hm : rs.length = m
  · have hmm : ((rs.length : Int) != (m : Int)) = false := by simp [hm]
    have HTW : Hid (tv = numsP n k nm (rs.mapM numC)) := by unfold Hid; rw [HTV.out, if_pos hm]
    have HM := Lib.hid hm
    clear hm HTV
    have HRI := Lib.hid (fun W => hRI.out n 0 100000 W)
    obtain ⟨fa, hfa⟩ : ∃ fa, outI n 0 100000 = fa := ⟨_, rfl⟩
    rw [hfa] at HRI
    have HFA := Lib.hid hfa
    clear hfa
    go_wp2_with fail
    refine (HRI.out _).mono ?_
    rintro e w' ⟨rfl, rfl⟩
    have hno : (!(!fa)) = fa := by simp
    go_wp2_with fail
    go_loopw [10, 11] (fun f i wr => ∃ (j : Nat) (ns : List Int) (v : Value) (fb : Bool), j ≤ rs.length ∧ i = .int .i64 j ∧ f = .bool fb ∧ Hid (fb = (fa || ns.any bigB)) ∧ Hid ((rs.take j).mapM numC = some ns) ∧ Hid (ns.length = j) ∧ cellsAt wr yb 84 #[.int .i64 n, .int .i64 (k : Nat), .string ⟨nm.toArray⟩, v] ∧ cellsAt wr xb 84 #[.int .i64 0, .int .i64 0, .string ⟨#[]⟩, .slice none 0 0] ∧ wr.ownsRow wc.heap.size 3 1 v ns.length (ns.map (Value.int .i64)) ∧ Hid (WRow wr g off rs) ∧ Below w.heap.size w wr ∧ wc.heap.size ≤ wr.heap.size) (fun _ i _ => rs.length - (intOf i).toNat)
    case atStart => exact ⟨0, [], .slice none 0 0, fa, Nat.zero_le _, rfl, rfl, (by unfold Hid; simp), show _ = _ from rfl, show _ = _ from rfl, hX1, hZ1, World.ownsRow_nil _ _ _ _, HR1, hB1, hs1⟩
    case round =>
      obtain ⟨j, ns, v, fb, hj, rfl, rfl, HFB, HJ, HNL, hXj, hZj, hOj, HRj, hBw, hsz⟩ := hrel
      clear HR1 hX1 hZ1 hB1 q0 q1 q2 q3 p0 p1 p2 p3 z0 z1 z2 z3
      obtain ⟨q0, q1, q2, q3⟩ := cells4 hXj
      obtain ⟨p0, p1, p2, p3⟩ := cells4 hZj
      obtain ⟨z0, z1, z2, z3⟩ := frz4 hZj
      have hnl : ns.length ≤ 1000 := by have := HNL.out; omega
      by_cases hlt : j < rs.length
      · have s0 := HRj.out.cell j hlt
        have i2 : (j : Int) < (rs.length : Int) := by omega
        have HSN := Lib.hid (take_snoc_getD [] hlt)
        have HMEM := Lib.hid (getD_mem (d := []) hlt)
        have hr120 := hrs _ HMEM.out
        generalize rs.getD j [] = r at *
        have HNUM := Lib.hid (rnumber_any r hr120 wr)
        go_wp2_with fail
        cases hq : numC r with
        | none =>
          have HTX : Hid (tv = (zeroOL, 6)) := by unfold Hid; rw [HTW.out, mapM_none HMEM.out hq]; rfl
          rw [hq] at HNUM
          refine HNUM.out.mono ?_
          rintro e w2 ⟨rfl, rfl⟩
          unfold numT
          go_wp2_with fail
          obtain ⟨f0, f1, f2, f3⟩ := cells4 (set4 hZj (.int .i64 0) (.int .i64 0) (.string ⟨#[]⟩) (.slice none 0 0))
          (try simp only [Exit.inBlock, Exit.then])
          show bodyPost _ _ _ _ _ _
          refine bodyPost_ret (P := Tryz.prog) (fn := Tryz.f13) (v := .tuple #[.agg #[.int .i64 0, .int .i64 0, .string ⟨#[]⟩, .slice none 0 0], .int .i64 6]) ?_ rfl ?_
          · simp [results, Tryz.results13, go_sem, f0, f1, f2, f3]
          rw [HTX.out]
          exact LineEnd.bad (set4_below hBw hxb _ _ _ _)
        | some nq =>
          have HJ2 : Hid ((rs.take (j + 1)).mapM numC = some (ns ++ [nq])) := by unfold Hid; rw [HSN.out, mapM_snoc, HJ.out]; simp only [hq]
          rw [hq] at HNUM
          refine HNUM.out.mono ?_
          rintro e w2 ⟨rfl, hw2⟩
          have hb2 : Below wr.heap.size wr w2 := by rw [hw2]; exact Below.refl _ _
          have hX2 := hXj.below hb2
          have hZ2 := hZj.below hb2
          have hB2 : Below w.heap.size w w2 := below_trans hBw hb2
          have HO2 := Lib.hid (ownsRow_below hOj hb2)
          have HR2 := Lib.hid (HRj.out.below hb2)
          have hsz2 : wr.heap.size ≤ w2.heap.size := hb2.size
          clear q0 q1 q2 q3 p0 p1 p2 p3 z0 z1 z2 z3 hOj HRj hb2 hw2 s0 HNUM hXj hZj
          obtain ⟨q0, q1, q2, q3⟩ := cells4 hX2
          obtain ⟨p0, p1, p2, p3⟩ := cells4 hZ2
          obtain ⟨z0, z1, z2, z3⟩ := frz4 hZ2
          unfold numT
          go_wp2_with ((at_builtin; refine wpList_append_lies _ (by rfl) _ _ _ (by rfl) wc.heap.size 3 i0 _ 1 8 Tryz.underlying23 hi hz0 hz1 hz2 rfl (by omega) v ns.length _ (by rfl) (World.ownsRow.alloc HO2.out _) ⟨w2.heap.size, 0, none⟩ 1 1 [.int .i64 nq] (by rfl) (by rfl) (World.news_of_block (cs := #[.int .i64 nq]) (t := 3) (fr := (0, 0)) (alloc_new w2 _)) (by simp [Value.oneCell']) (by omega) (by unfold maxLen; omega) (by omega) (by have := hB2.size; have := hBw.size; simp; omega) (w2.heap.size + 1) (by simp) ?_))
          intro g7 cap7 w7 hown7 hgrow hat hlt7
          have hn0 := rows_ne HO2.out (b := yb) hxl
          have hnz := rows_ne HO2.out (b := xb) hzl
          have hn1 := rows_ne HO2.out (b := g) hgl
          have hba : Below w2.heap.size w2 (w2.alloc (.cells #[.int .i64 nq] 3)) := balloc (Below.refl _ _) _
          have hX7 := cells_grown (hX2.below hba) hgrow hn0
          have hZ7 := cells_grown (hZ2.below hba) hgrow hnz
          have HR7 := Lib.hid ((HR2.out.below hba).grown hgrow hn1)
          have hB7 : Below w.heap.size w w7 := grow_below (balloc hB2 _) hgrow (fun x hx => by have := (HO2.out.lt x hx).1; have := hBw.size; omega)
          clear hat q0 q1 q2 q3 p0 p1 p2 p3 z0 z1 z2 z3
          obtain ⟨q0, q1, q2, q3⟩ := cells4 hX7
          obtain ⟨z0, z1, z2, z3⟩ := frz4 hX7
          have HRI := Lib.hid (fun W => hRI.out nq (-1000000000000) 1000000000000 W)
          have HRX : Hid (∀ W, Calls Tryz.prog 41 #[.int .i64 nq, .int .i64 (-1000000000000), .int .i64 1000000000000] W fun e w' => e = .returned (.bool (!bigB nq)) ∧ W = w') := HRI
          clear HRI
          have hAN : (fa || (ns ++ [nq]).any bigB) = ((fa || ns.any bigB) || bigB nq) := by rw [any_snoc, Bool.or_assoc]
          have HAN := Lib.hid hAN
          clear hAN
          generalize bigB nq = bq at *
          have hX8 := hX7.set 3 (.slice (some ⟨g7, 0, none⟩) (ns.length + 1) cap7)
          simp only [List.setIfInBounds_toArray, List.set_cons_zero, List.set_cons_succ] at hX8
          have hZ8 := hZ7.set_other (p := ⟨yb, 3, none⟩) (by show yb ≠ xb; omega) (.slice (some ⟨g7, 0, none⟩) (ns.length + 1) cap7)
          have hO8 := ownsRow_setCell_below hown7 (a := ⟨yb, 3, none⟩) hxl (.slice (some ⟨g7, 0, none⟩) (ns.length + 1) cap7)
          have HR8 := Lib.hid (HR7.out.set (p := ⟨yb, 3, none⟩) hyg (.slice (some ⟨g7, 0, none⟩) (ns.length + 1) cap7))
          have hB8 := Below.setCell (p := ⟨yb, 3, none⟩) hB7 hyb (.slice (some ⟨g7, 0, none⟩) (ns.length + 1) cap7)
          have hs8 : wc.heap.size ≤ (w7.setCell ⟨yb, 3, none⟩ (.slice (some ⟨g7, 0, none⟩) (ns.length + 1) cap7)).heap.size := by (have h1 := hgrow.size; have h2 := hba.size; simp [World.setCell] at *; omega)
          have hO8' : (w7.setCell ⟨yb, 3, none⟩ (.slice (some ⟨g7, 0, none⟩) (ns.length + 1) cap7)).ownsRow wc.heap.size 3 1 (.slice (some ⟨g7, 0, none⟩) (ns.length + 1) cap7) (ns ++ [nq]).length ((ns ++ [nq]).map (Value.int .i64)) := by
            rw [List.map_append, List.length_append]; exact hO8
          clear hO8 hown7
          cases fb with
          | true =>
            go_wp2_with fail
            go_roundw
            case rel =>
              exact ⟨j + 1, ns ++ [nq], .slice (some ⟨g7, 0, none⟩) (ns.length + 1) cap7, true, by omega, by go_num, rfl, (by show _ = _; rw [HAN.out, ← HFB.out]; rfl), HJ2, (by have := HNL.out; show _ = _; simp; omega), hX8, hZ8, hO8', HR8, hB8, hs8⟩
            case measure => simp [intOf]; omega
          | false =>
            go_wp2_with fail
            refine (HRX.out _).mono ?_
            rintro e w' ⟨rfl, rfl⟩
            go_wp2_with fail
            go_roundw
            case rel =>
              exact ⟨j + 1, ns ++ [nq], .slice (some ⟨g7, 0, none⟩) (ns.length + 1) cap7, _, by omega, by go_num, rfl, (by show _ = _; rw [HAN.out, ← HFB.out]; simp), HJ2, (by have := HNL.out; show _ = _; simp; omega), hX8, hZ8, hO8', HR8, hB8, hs8⟩
            case measure => simp [intOf]; omega
      · obtain rfl : j = rs.length := by omega
        have HTX : Hid (tv = if fb then (zeroOL, 7) else (⟨n, k, nm, ns⟩, 0)) := by
          unfold Hid
          have h := HJ.out
          rw [List.take_length] at h
          rw [HTW.out, h]
          have e : farB ⟨n, k, nm, ns⟩ = fb := by rw [HFB.out, ← HFA.out]; rfl
          show (if farB ⟨n, k, nm, ns⟩ then _ else _) = _
          rw [e]
        clear HTW HJ HFB HFA
        have hri := rowI_of_own hOj
        obtain ⟨va, vc, rfl, hx⟩ := id hri
        clear hx
        cases fb with
        | true =>
          have HTY : Hid (tv = (zeroOL, 7)) := HTX
          go_wp2_with fail
          obtain ⟨f0, f1, f2, f3⟩ := cells4 (set4 hZj (.int .i64 0) (.int .i64 0) (.string ⟨#[]⟩) (.slice none 0 0))
          (try simp only [Exit.inBlock, Exit.then])
          show bodyPost _ _ _ _ _ _
          refine bodyPost_ret (P := Tryz.prog) (fn := Tryz.f13) (v := .tuple #[.agg #[.int .i64 0, .int .i64 0, .string ⟨#[]⟩, .slice none 0 0], .int .i64 7]) ?_ rfl ?_
          · simp [results, Tryz.results13, go_sem, f0, f1, f2, f3]
          rw [HTY.out]
          exact LineEnd.bad (set4_below hBw hxb _ _ _ _)
        | false =>
          have HTY : Hid (tv = (⟨n, k, nm, ns⟩, 0)) := HTX
          go_wp2_with fail
          obtain ⟨f0, f1, f2, f3⟩ := cells4 (set4 hZj (.int .i64 n) (.int .i64 (k : Nat)) (.string ⟨nm.toArray⟩) (.slice va ns.length vc))
          (try simp only [Exit.inBlock, Exit.then])
          show bodyPost _ _ _ _ _ _
          refine bodyPost_ret (P := Tryz.prog) (fn := Tryz.f13) (v := .tuple #[.agg #[.int .i64 n, .int .i64 (k : Nat), .string ⟨nm.toArray⟩, .slice va ns.length vc], .int .i64 0]) ?_ rfl ?_
          · simp [results, Tryz.results13, go_sem, f0, f1, f2, f3]
          rw [HTY.out]
          exact ⟨_, rfl, rowI_of_own (ownsRow_setCell_below (ownsRow_setCell_below (ownsRow_setCell_below (ownsRow_setCell_below hOj hzl _) hzl _) hzl _) hzl _), set4_below hBw hxb _ _ _ _⟩
  · have hmm : ((rs.length : Int) != (m : Int)) = true := by rw [bne_iff_ne]; omega
    have HTX : Hid (tv = (zeroOL, 6)) := by unfold Hid; rw [HTV.out, if_neg hm]
    clear hm HTV
    go_wp2_with fail
    obtain ⟨f0, f1, f2, f3⟩ := cells4 (set4 hZ1 (.int .i64 0) (.int .i64 0) (.string ⟨#[]⟩) (.slice none 0 0))
    (try simp only [Exit.inBlock, Exit.then])
    show bodyPost _ _ _ _ _ _
    refine bodyPost_ret (P := Tryz.prog) (fn := Tryz.f13) (v := .tuple #[.agg #[.int .i64 0, .int .i64 0, .string ⟨#[]⟩, .slice none 0 0], .int .i64 6]) ?_ rfl ?_
    · simp [results, Tryz.results13, go_sem, f0, f1, f2, f3]
    rw [HTX.out]
    exact LineEnd.bad (set4_below hB1 hxb _ _ _ _)
end Go.Proofs.YtkjajpfgdjfcoaaGreatDoor
namespace Go.Proofs.YtkjajpfgdjfcoaaGreatDoor
open Go.RowKit Go.Maps Go.Sort Go.Shelf
/-- the last number below i of a verb with this word -/
def pv (u : List UInt8) (i : Nat) : Nat := if verbOf u < i then verbOf u else 0
theorem pv_one (u : List UInt8) : pv u 1 = 0 := by unfold pv; split <;> omega
theorem pv_all (u : List UInt8) : pv u 18 = verbOf u := by unfold pv; rw [if_pos (by have := (verbOf_bd u).1; omega)]
theorem word_iff {u : List UInt8} {i : Nat} (h1 : 1 ≤ i) (h2 : i ≤ 17) : (wordN i == u) = decide (verbOf u = i) := by
  rw [Bool.eq_iff_iff]
  simp only [beq_iff_eq, decide_eq_true_eq]
  constructor
  · rintro rfl; exact (verbOf_word h1 h2).1
  · intro h; have := (verbOf_bd u).2 (by omega); rw [h] at this; exact this
theorem pv_hit {u : List UInt8} {i : Nat} (h1 : 1 ≤ i) (h2 : i ≤ 17) (h : (wordN i == u) = true) : pv u (i + 1) = i := by
  rw [word_iff h1 h2, decide_eq_true_eq] at h
  unfold pv; rw [if_pos (by omega), h]
theorem pv_miss {u : List UInt8} {i : Nat} (h1 : 1 ≤ i) (h2 : i ≤ 17) (h : (wordN i == u) = false) : pv u (i + 1) = pv u i := by
  rw [word_iff h1 h2, decide_eq_false_iff_not] at h
  unfold pv
  by_cases hv : verbOf u < i
  · rw [if_pos hv, if_pos (by omega)]
  · rw [if_neg hv, if_neg (by omega)]
theorem numT_cases (o : Option Int) : ∃ an ib, numT o = .tuple #[.int .i64 an, .bool ib] ∧ (ib = true → o = some an) ∧ (ib = false → o = none) := by
  cases o with
  | none => exact ⟨0, false, rfl, by simp, by simp⟩
  | some n => exact ⟨n, true, rfl, by simp, by simp⟩
set_option maxRecDepth 100000 in
set_option maxHeartbeats 4000000 in
theorem rparse_any (s : List UInt8) (w : World) (hs : s.length ≤ 8796093022000) :
    Calls Tryz.prog 13 #[.string ⟨s.toArray⟩] w (LineEnd w (lineV numC s, lineE numC s)) := by
  obtain ⟨W0, hW0⟩ : ∃ W0, w.alloc (.cells #[.int .i64 0, .int .i64 0, .string ⟨#[]⟩, .slice none 0 0] 84) = W0 := ⟨_, rfl⟩
  have hZ0 : cellsAt W0 w.heap.size 84 #[.int .i64 0, .int .i64 0, .string ⟨#[]⟩, .slice none 0 0] := by rw [← hW0]; exact alloc_new _ _
  have hB0 : Below w.heap.size w W0 := by rw [← hW0]; exact balloc (Below.refl _ _) _
  have hz0 : W0.heap.size = w.heap.size + 1 := by rw [← hW0]; simp
  have hsz : (⟨s.toArray⟩ : ByteArray).size = s.length := by simp [ByteArray.size]
  obtain ⟨xb, hxe⟩ : ∃ xb, w.heap.size = xb := ⟨_, rfl⟩
  have hxb : w.heap.size ≤ xb := by omega
  have hxz : xb + 1 ≤ W0.heap.size := by omega
  rw [hxe] at hZ0
  have HXE := Lib.hid hxe
  have HW0 := Lib.hid hW0
  clear hxe hz0 hW0
  by_cases hl : 120 < s.length
  · have HR := Lib.hid (line_long (num := numC) hl)
    generalize (lineV numC s, lineE numC s) = tv at *
    have z : (120 : Int) < ((⟨s.toArray⟩ : ByteArray).size : Int) := by omega
    generalize (⟨s.toArray⟩ : ByteArray) = S at *
    clear hl hsz
    go_enter Tryz.func13, Tryz.ntmps13
    go_upto_region 1 with fail
    rw [HW0.out, HXE.out]
    obtain ⟨q0, q1, q2, q3⟩ := cells4 hZ0
    obtain ⟨z0, z1, z2, z3⟩ := frz4 hZ0
    go_wp2_with fail
    obtain ⟨f0, f1, f2, f3⟩ := cells4 (set4 hZ0 (.int .i64 0) (.int .i64 0) (.string ⟨#[]⟩) (.slice none 0 0))
    (try simp only [Exit.inBlock, Exit.then])
    show bodyPost _ _ _ _ _ _
    refine bodyPost_ret (P := Tryz.prog) (fn := Tryz.f13) (v := .tuple #[.agg #[.int .i64 0, .int .i64 0, .string ⟨#[]⟩, .slice none 0 0], .int .i64 3]) ?_ rfl ?_
    · simp [results, Tryz.results13, go_sem, f0, f1, f2, f3]
    rw [HR.out]
    exact LineEnd.bad (set4_below hB0 hxb _ _ _ _)
  · have HR := Lib.hid (line_form (num := numC) hl)
    generalize (lineV numC s, lineE numC s) = tv at *
    have z : ¬ (120 : Int) < ((⟨s.toArray⟩ : ByteArray).size : Int) := by omega
    have HWB : Hid (∀ x ∈ wordsL s, x.length ≤ 120) := fun x hx => Nat.le_trans (words_bound s x hx) (by omega)
    have HWL : Hid ((wordsL s).length ≤ 121) := show _ ≤ _ from by have := wordsL_len s; omega
    have HNE := Lib.hid (wordsL_ne s)
    have HCW := Lib.hid (fun W => rwords_list s hs W)
    clear hl hsz
    generalize wordsL s = ws at *
    generalize (⟨s.toArray⟩ : ByteArray) = S at *
    go_enter Tryz.func13, Tryz.ntmps13
    go_upto_region 1 with fail
    rw [HW0.out, HXE.out]
    go_wp2_with fail
    refine (HCW.out _).mono ?_
    rintro e w2 ⟨v, rfl, hrow, hb⟩
    obtain ⟨g, cap, rfl, hg1, hcap, hcap2, hWR⟩ := wrow_of_own hrow HNE.out
    have hZ2 := hZ0.below hb
    have hB2 := below_trans hB0 hb
    have hs2 := hb.size
    clear hrow hb hZ0 hB0
    obtain ⟨m, hm⟩ : ∃ m, ws.length = m := ⟨_, rfl⟩
    obtain ⟨p0, p1, p2, p3⟩ := cells4 hZ2
    obtain ⟨z0, z1, z2, z3⟩ := frz4 hZ2
    rw [hm]
    by_cases hlen : ws.length < 3
    · have HTX := HR.out.trans (formP_short hlen)
      have z5 : (m : Int) < 3 := by omega
      clear hm
      have HTX := Lib.hid HTX
      go_wp2_with fail
      obtain ⟨f0, f1, f2, f3⟩ := cells4 (set4 hZ2 (.int .i64 0) (.int .i64 0) (.string ⟨#[]⟩) (.slice none 0 0))
      (try simp only [Exit.inBlock, Exit.then])
      show bodyPost _ _ _ _ _ _
      refine bodyPost_ret (P := Tryz.prog) (fn := Tryz.f13) (v := .tuple #[.agg #[.int .i64 0, .int .i64 0, .string ⟨#[]⟩, .slice none 0 0], .int .i64 6]) ?_ rfl ?_
      · simp [results, Tryz.results13, go_sem, f0, f1, f2, f3]
      rw [HTX.out]
      exact LineEnd.bad (set4_below hB2 hxb _ _ _ _)
    · obtain ⟨a, t, v, rest, rfl⟩ : ∃ a t v rest, ws = a :: t :: v :: rest := by
        match ws, hlen with
        | [], h => simp at h
        | [_], h => simp at h
        | [_, _], h => simp at h
        | a :: t :: v :: rest, _ => exact ⟨a, t, v, rest, rfl⟩
      have z5 : ¬ (m : Int) < 3 := by omega
      have HM : Hid (rest.length + 3 = m) := hm
      have m0 : (0 : Int) < (m : Int) := by omega
      have m1 : (1 : Int) < (m : Int) := by omega
      have hm2 : 2 < m := by omega
      have c0 := hWR.cell 0 (by simp)
      have c1 := hWR.cell 1 (by simp)
      simp only [Nat.zero_add, List.getD_cons_zero, List.getD_cons_succ] at c0 c1
      have HR2 := Lib.hid hWR
      clear hm hlen hWR
      by_cases ha : a = wAt
      · have HA := Lib.hid ha
        have hae : (a == [97, 116]) = true := beq_iff_eq.2 ha
        clear ha
        obtain ⟨an, ib, hnt, hib1, hib0⟩ := numT_cases (numC t)
        have HNUM := fun W => rnumber_any t (HWB.out t (by simp)) W
        rw [hnt] at HNUM
        have HNUM := Lib.hid HNUM
        have HI1 := Lib.hid hib1
        have HI0 := Lib.hid hib0
        clear hnt hib1 hib0
        go_wp2_with fail
        refine (HNUM.out _).mono ?_
        rintro e w' ⟨rfl, rfl⟩
        go_upto_region 8 with fail
        have hA := balloc (Below.refl w2.heap.size w2) (.cells #[.int .i64 an, .int .i64 0, .string ⟨#[]⟩, .slice none 0 0] 84)
        have hX3 : cellsAt (w2.alloc (.cells #[.int .i64 an, .int .i64 0, .string ⟨#[]⟩, .slice none 0 0] 84)) w2.heap.size 84 #[.int .i64 an, .int .i64 ((pv v 1 : Nat) : Int), .string ⟨#[]⟩, .slice none 0 0] := by rw [pv_one]; exact alloc_new _ _
        have hZ3 := hZ2.below hA
        have HR3 := Lib.hid (HR2.out.below hA)
        have hB3 := below_trans hB2 hA
        have hxy : xb ≠ w2.heap.size := by omega
        have hyg : w2.heap.size ≠ g := by have := HR2.out.hg; omega
        have hyb : w.heap.size ≤ w2.heap.size := hB2.size
        clear hA hZ2 hB2 HR2 p0 p1 p2 p3 z0 z1 z2 z3 c0 c1
        generalize w2.alloc (.cells #[.int .i64 an, .int .i64 0, .string ⟨#[]⟩, .slice none 0 0] 84) = w3 at *
        generalize w2.heap.size = yb at *
        go_wp2_with fail
        go_loopw [8] (fun i wr => ∃ j : Nat, 1 ≤ j ∧ j ≤ 18 ∧ i = .int .i64 j ∧ cellsAt wr yb 84 #[.int .i64 an, .int .i64 ((pv v j : Nat) : Int), .string ⟨#[]⟩, .slice none 0 0] ∧ cellsAt wr xb 84 #[.int .i64 0, .int .i64 0, .string ⟨#[]⟩, .slice none 0 0] ∧ Hid (WRow wr g 0 (a :: t :: v :: rest)) ∧ Below w.heap.size w wr) (fun i _ => 18 - (intOf i).toNat)
        case atStart => exact ⟨1, Nat.le_refl _, by omega, rfl, hX3, hZ3, HR3, hB3⟩
        case round =>
          obtain ⟨j, hj1, hj, rfl, hXj, hZj, HRj, hBj⟩ := hrel
          clear hX3 hZ3 HR3 hB3
          go_wp2_with fail
          refine (rverbs_any _).mono ?_
          rintro e w4 ⟨rfl, hw4⟩
          have hb4 : Below wr.heap.size wr w4 := by rw [hw4]; exact balloc (Below.refl _ _) _
          have hX4 := hXj.below hb4
          have hZ4 := hZj.below hb4
          have HR4 := Lib.hid (HRj.out.below hb4)
          have hB4 := below_trans hBj hb4
          clear hw4 hXj hZj HRj hBj hb4
          by_cases hlt : j < 18
          · have hj18 : (j : Int) < 18 := by omega
            go_upto_region 11 with fail
            have c2 := HR4.out.cell 2 (by simp)
            simp only [Nat.zero_add, List.getD_cons_zero, List.getD_cons_succ] at c2
            refine rparse_reg11 (by kernel_rfl) ⟨c2⟩ hlt hm2 ?_
            intro u45 u46 u47 u48 u49 u50 u51 w5 hb5
            have hX5 := hX4.below hb5
            have hZ5 := hZ4.below hb5
            have HR5 := Lib.hid (HR4.out.below hb5)
            have hB5 := below_trans hB4 hb5
            clear hX4 hZ4 HR4 hB4 hb5 c2
            obtain ⟨q0, q1, q2, q3⟩ := cells4 hX5
            have y1 := (frz4 hX5).2.1
            cases hwd : (wordN j == v) with
            | true =>
              have hpv := pv_hit hj1 (by omega) hwd
              go_wp2_with fail
              go_roundw
              case rel =>
                have hX6 := hX5.set 1 (.int .i64 (j : Nat))
                simp only [List.setIfInBounds_toArray, List.set_cons_zero, List.set_cons_succ] at hX6
                exact ⟨j + 1, by omega, by omega, by go_num, (by rw [hpv]; exact hX6), hZ5.set_other (p := ⟨yb, 1, none⟩) (by show yb ≠ xb; omega) _, HR5.out.set (p := ⟨yb, 1, none⟩) hyg _, Below.setCell (p := ⟨yb, 1, none⟩) hB5 hyb _⟩
              case measure => simp [intOf]; omega
            | false =>
              have hpv := pv_miss hj1 (by omega) hwd
              go_wp2_with fail
              go_roundw
              case rel => exact ⟨j + 1, by omega, by omega, by go_num, (by rw [hpv]; exact hX5), hZ5, HR5, hB5⟩
              case measure => simp [intOf]; omega
          · obtain rfl : j = 18 := by omega
            rw [pv_all] at hX4
            have hk17 := (verbOf_bd v).1
            cases ib with
            | false =>
              have HTX := Lib.hid (HR.out.trans (formP_num (HI0.out rfl)))
              obtain ⟨q0, q1, q2, q3⟩ := cells4 hX4
              obtain ⟨p0, p1, p2, p3⟩ := cells4 hZ4
              obtain ⟨z0, z1, z2, z3⟩ := frz4 hZ4
              go_wp2_with fail
              obtain ⟨f0, f1, f2, f3⟩ := cells4 (set4 hZ4 (.int .i64 0) (.int .i64 0) (.string ⟨#[]⟩) (.slice none 0 0))
              (try simp only [Exit.inBlock, Exit.then])
              show bodyPost _ _ _ _ _ _
              refine bodyPost_ret (P := Tryz.prog) (fn := Tryz.f13) (v := .tuple #[.agg #[.int .i64 0, .int .i64 0, .string ⟨#[]⟩, .slice none 0 0], .int .i64 6]) ?_ rfl ?_
              · simp [results, Tryz.results13, go_sem, f0, f1, f2, f3]
              rw [HTX.out]
              exact LineEnd.bad (set4_below hB4 hxb _ _ _ _)
            | true =>
              have hq := HI1.out rfl
              by_cases hk : verbOf v = 0
              · have HTX := Lib.hid (HR.out.trans (formP_verb hk))
                rw [hk] at hX4
                obtain ⟨q0, q1, q2, q3⟩ := cells4 hX4
                obtain ⟨p0, p1, p2, p3⟩ := cells4 hZ4
                obtain ⟨z0, z1, z2, z3⟩ := frz4 hZ4
                clear hk hq
                go_wp2_with fail
                obtain ⟨f0, f1, f2, f3⟩ := cells4 (set4 hZ4 (.int .i64 0) (.int .i64 0) (.string ⟨#[]⟩) (.slice none 0 0))
                (try simp only [Exit.inBlock, Exit.then])
                show bodyPost _ _ _ _ _ _
                refine bodyPost_ret (P := Tryz.prog) (fn := Tryz.f13) (v := .tuple #[.agg #[.int .i64 0, .int .i64 0, .string ⟨#[]⟩, .slice none 0 0], .int .i64 6]) ?_ rfl ?_
                · simp [results, Tryz.results13, go_sem, f0, f1, f2, f3]
                rw [HTX.out]
                exact LineEnd.bad (set4_below hB4 hxb _ _ _ _)
              · have HK17 := Lib.hid hk17
                have HTP := Lib.hid (fun h => HR.out.trans (formP_plain HA.out hq hk h (rest := rest)))
                have HTN := Lib.hid (fun (nm : List UInt8) (rs : List (List UInt8)) (he : rest = nm :: rs) h1 h2 => HR.out.trans ((by rw [he]) : formP numC (a :: t :: v :: rest) = formP numC (a :: t :: v :: nm :: rs)) |>.trans (formP_named HA.out hq hk h1 h2))
                have HT0 := Lib.hid (fun (he : rest = []) h1 => HR.out.trans ((by rw [he]) : formP numC (a :: t :: v :: rest) = formP numC [a, t, v]) |>.trans (formP_nil h1))
                have HTB := Lib.hid (fun (nm : List UInt8) (rs : List (List UInt8)) (he : rest = nm :: rs) h1 h2 => HR.out.trans ((by rw [he]) : formP numC (a :: t :: v :: rest) = formP numC (a :: t :: v :: nm :: rs)) |>.trans (formP_name h1 h2))
                have hk0 : (((verbOf v : Nat) : Int) == 0) = false := beq_eq_false_iff_ne.2 (by omega)
                have hk18 : verbOf v < 18 := by omega
                have hgl : rest.length ≤ 121 := by have := HWL.out; show rest.length ≤ 121; simp at this; omega
                have HRB : Hid (∀ x ∈ rest, x.length ≤ 120) := fun x hx => HWB.out x (by simp [hx])
                have hcap3 : rest.length + 3 ≤ cap := hcap
                clear hk hq HI1 HI0 HA hae HNUM hk17
                generalize verbOf v = k at *
                have hm := HM.out
                subst hm
                obtain ⟨off, hsl3, hoff⟩ := sl3_run g rest.length cap hcap3
                have HR5 : Hid (WRow w4 g off rest) := wrow_next (us := [a, t, v]) HR4.out rfl (by simpa using hoff)
                have hc3 : rest.length ≤ cap - 3 := by omega
                obtain ⟨q0, q1, q2, q3⟩ := cells4 hX4
                obtain ⟨p0, p1, p2, p3⟩ := cells4 hZ4
                obtain ⟨z0, z1, z2, z3⟩ := frz4 hZ4
                go_upto_region 15 with fail
                generalize cap - 3 = c3 at *
                go_cut [9] from 63 to 64 (fun v9 wx => v9 = .slice (some ⟨g, off, none⟩) rest.length c3 ∧ wx = w4)
                case first =>
                  go_wp2_with fail
                  go_meet
                  exact ⟨rfl, rfl⟩
                case rest =>
                  obtain ⟨rfl, rfl⟩ := hcut
                  refine ‹∀ (a : Act) (w : World), Code.wp Tryz.prog _ _ a w → _› _ _ ?_
                  apply wp_seq_k
                  intro _ _
                  go_cut [9] from 65 to 84 (fun v9 wx => ∃ (rs : List (List UInt8)) (nm : List UInt8) (o' c' : Nat), v9 = .slice (some ⟨g, o', none⟩) rs.length c' ∧ cellsAt wx xb 84 #[.int .i64 0, .int .i64 0, .string ⟨#[]⟩, .slice none 0 0] ∧ cellsAt wx yb 84 #[.int .i64 an, .int .i64 (k : Nat), .string ⟨nm.toArray⟩, .slice none 0 0] ∧ WRow wx g o' rs ∧ Below w.heap.size w wx ∧ tv = tailP numC an k nm rs ∧ (∀ r ∈ rs, r.length ≤ 120) ∧ rs.length ≤ 1000)
                  case first =>
                    have hNB := fun W => rnamed_any k hk18 W
                    cases hnb : namedB k with
                    | false =>
                      rw [hnb] at hNB
                      have HNB := Lib.hid hNB
                      have HTX := Lib.hid (HTP.out hnb)
                      clear hNB HTP HTN HT0 HTB hnb
                      go_wp2_with fail
                      refine (HNB.out _).mono ?_
                      rintro e w5 ⟨rfl, hb5⟩
                      go_wp2_with fail
                      go_meet
                      exact ⟨rest, [], off, c3, rfl, hZ4.below hb5, hX4.below hb5, HR5.out.below hb5, below_trans hB4 hb5, HTX.out, HRB.out, by omega⟩
                    | true =>
                      rw [hnb] at hNB
                      have HNB := Lib.hid hNB
                      have HTN2 := Lib.hid (fun nm rs he h2 => HTN.out nm rs he hnb h2)
                      have HTB2 := Lib.hid (fun nm rs he h2 => HTB.out nm rs he hnb h2)
                      have HT02 := Lib.hid (fun he => HT0.out he hnb)
                      clear hNB HTP HTN HT0 HTB hnb
                      go_wp2_with fail
                      refine (HNB.out _).mono ?_
                      rintro e w5 ⟨rfl, hb5⟩
                      have hX5 := hX4.below hb5
                      have hZ5 := hZ4.below hb5
                      have HR6 := Lib.hid (HR5.out.below hb5)
                      have hB5 := below_trans hB4 hb5
                      clear hX4 hZ4 HR5 hB4 hb5 q0 q1 q2 q3 p0 p1 p2 p3 z0 z1 z2 z3 HNB HR4
                      obtain ⟨q0, q1, q2, q3⟩ := cells4 hX5
                      obtain ⟨p0, p1, p2, p3⟩ := cells4 hZ5
                      obtain ⟨z0, z1, z2, z3⟩ := frz4 hZ5
                      obtain he | ⟨nm, rs, he⟩ : rest = [] ∨ ∃ nm rs, rest = nm :: rs := by
                        cases rest with
                        | nil => exact .inl rfl
                        | cons nm rs => exact .inr ⟨nm, rs, rfl⟩
                      · subst he
                        have HTX := Lib.hid (HT02.out rfl)
                        clear HT02 HTN2 HTB2
                        go_wp2_with fail
                        obtain ⟨f0, f1, f2, f3⟩ := cells4 (set4 hZ5 (.int .i64 0) (.int .i64 0) (.string ⟨#[]⟩) (.slice none 0 0))
                        (try simp only [Exit.inBlock, Exit.then])
                        show bodyPost _ _ _ _ _ _
                        refine bodyPost_ret (P := Tryz.prog) (fn := Tryz.f13) (v := .tuple #[.agg #[.int .i64 0, .int .i64 0, .string ⟨#[]⟩, .slice none 0 0], .int .i64 6]) ?_ rfl ?_
                        · simp [results, Tryz.results13, go_sem, f0, f1, f2, f3]
                        rw [HTX.out]
                        exact LineEnd.bad (set4_below hB5 hxb _ _ _ _)
                      · subst he
                        have c0 := HR6.out.cell 0 (by simp)
                        simp only [Nat.add_zero, List.getD_cons_zero] at c0
                        have hnl := HRB.out nm (by simp)
                        have hNM := fun W => rname_any ⟨nm.toArray⟩ W (by simp [ByteArray.size]; omega)
                        simp only at hNM
                        have HRS : Hid (∀ r ∈ rs, r.length ≤ 120) := fun r hr => HRB.out r (by simp [hr])
                        have hrs1 : rs.length + 1 ≤ c3 := hc3
                        have hrs2 : rs.length + 1 ≤ 121 := hgl
                        simp only [List.length_cons]
                        clear hgl hc3
                        cases hnm : nameB nm with
                        | false =>
                          have HTX := Lib.hid (HTB2.out nm rs rfl hnm)
                          rw [hnm] at hNM
                          have HNM := Lib.hid hNM
                          clear hNM HT02 HTN2 HTB2 hnm
                          go_wp2_with fail
                          refine (HNM.out _).mono ?_
                          rintro e w' ⟨rfl, rfl⟩
                          go_wp2_with fail
                          obtain ⟨f0, f1, f2, f3⟩ := cells4 (set4 hZ5 (.int .i64 0) (.int .i64 0) (.string ⟨#[]⟩) (.slice none 0 0))
                          (try simp only [Exit.inBlock, Exit.then])
                          show bodyPost _ _ _ _ _ _
                          refine bodyPost_ret (P := Tryz.prog) (fn := Tryz.f13) (v := .tuple #[.agg #[.int .i64 0, .int .i64 0, .string ⟨#[]⟩, .slice none 0 0], .int .i64 6]) ?_ rfl ?_
                          · simp [results, Tryz.results13, go_sem, f0, f1, f2, f3]
                          rw [HTX.out]
                          exact LineEnd.bad (set4_below hB5 hxb _ _ _ _)
                        | true =>
                          have HTX := Lib.hid (HTN2.out nm rs rfl hnm)
                          rw [hnm] at hNM
                          have HNM := Lib.hid hNM
                          clear hNM HT02 HTN2 HTB2 hnm
                          go_wp2_with fail
                          refine (HNM.out _).mono ?_
                          rintro e w' ⟨rfl, rfl⟩
                          obtain ⟨o', hsl, ho⟩ := sl1_run g off rs.length c3 hrs1
                          have x2 := (frz4 hX5).2.2.1
                          clear hsl3
                          go_upto_region 19 with fail
                          go_region
                          go_wp2_with fail
                          go_meet
                          have hX10 := hX5.set 2 (.string ⟨nm.toArray⟩)
                          simp only [List.setIfInBounds_toArray, List.set_cons_zero, List.set_cons_succ] at hX10
                          have hZ10 := hZ5.set_other (p := ⟨yb, 2, none⟩) (by show yb ≠ xb; omega) (.string ⟨nm.toArray⟩)
                          have hR10 := WRow.set (wrow_next (us := [nm]) (o' := o') HR6.out rfl ho) (p := ⟨yb, 2, none⟩) (by show yb ≠ g; omega) (.string ⟨nm.toArray⟩)
                          have hB10 := Below.setCell (p := ⟨yb, 2, none⟩) hB5 hyb (.string ⟨nm.toArray⟩)
                          exact ⟨rs, nm, o', c3 - 1, rfl, hZ10, hX10, ⟨hR10.hg, hR10.cell⟩, hB10.drew, HTX.out, HRS.out, by omega⟩
                  case rest =>
                    obtain ⟨rs, nm, o', c', rfl, hZ9, hX9, hR9, hB9, htv, hrs, hrl⟩ := hcut
                    refine ‹∀ (a : Act) (w : World), Code.wp Tryz.prog _ _ a w → _› _ _ ?_
                    rw [htv]
                    exact rparse_tail (by kernel_rfl) hZ9 hX9 hR9 hB9 hxb hyb hxy hyg hk18 hrl hrs
      · have HTX := Lib.hid (HR.out.trans (formP_at ha))
        have hae : (a == [97, 116]) = false := beq_eq_false_iff_ne.2 ha
        clear ha
        go_wp2_with fail
        obtain ⟨f0, f1, f2, f3⟩ := cells4 (set4 hZ2 (.int .i64 0) (.int .i64 0) (.string ⟨#[]⟩) (.slice none 0 0))
        (try simp only [Exit.inBlock, Exit.then])
        show bodyPost _ _ _ _ _ _
        refine bodyPost_ret (P := Tryz.prog) (fn := Tryz.f13) (v := .tuple #[.agg #[.int .i64 0, .int .i64 0, .string ⟨#[]⟩, .slice none 0 0], .int .i64 6]) ?_ rfl ?_
        · simp [results, Tryz.results13, go_sem, f0, f1, f2, f3]
        rw [HTX.out]
        exact LineEnd.bad (set4_below hB2 hxb _ _ _ _)
end Go.Proofs.YtkjajpfgdjfcoaaGreatDoor
