/- Walks: the officer's Parse. -/
import Derived.Test.YtkjajpfgdjfcoaaGreatDoorPC
set_option linter.unusedVariables false
set_option linter.unusedSimpArgs false
namespace Go.Proofs.YtkjajpfgdjfcoaaGreatDoor
open Go.RowKit
/-- what a line is behind its name, with what it is returned -/
def tailV (n : Int) (k : Nat) (nm : List UInt8) (rs : List (List UInt8)) : OL × Int :=
  match numsOf numO n k nm rs with
  | none => (zeroOL, 6)
  | some x => if farB x then (zeroOL, 7) else (x, 0)
def numsV (n : Int) (k : Nat) (nm : List UInt8) : Option (List Int) → OL × Int
  | none => (zeroOL, 6)
  | some ns => if farB ⟨n, k, nm, ns⟩ then (zeroOL, 7) else (⟨n, k, nm, ns⟩, 0)
theorem tailV_eq (n : Int) (k : Nat) (nm : List UInt8) (rs : List (List UInt8)) : tailV n k nm rs = if rs.length = manyN k then numsV n k nm (rs.mapM numO) else (zeroOL, 6) := by
  unfold tailV numsOf
  by_cases h : rs.length = manyN k
  · rw [if_pos h, if_pos h]; cases rs.mapM numO <;> rfl
  · rw [if_neg h, if_neg h]
/-- a line as it is returned -/
def LineEnd (w : World) (r : OL × Int) (e : Ending) (w' : World) : Prop :=
  ∃ v, e = .returned (.tuple #[.agg #[.int .i64 r.1.at_, .int .i64 (r.1.verb : Nat), .string ⟨r.1.name.toArray⟩, v], .int .i64 r.2]) ∧ RowI w' v r.1.nums ∧ Below w.heap.size w w'
theorem LineEnd.bad {w w' : World} {q : Int} (h : Below w.heap.size w w') : LineEnd w (zeroOL, q) (.returned (.tuple #[.agg #[.int .i64 0, .int .i64 0, .string ⟨#[]⟩, .slice none 0 0], .int .i64 q])) w' :=
  ⟨.slice none 0 0, rfl, ⟨none, 0, rfl, .inl rfl⟩, h⟩
set_option maxRecDepth 100000 in
set_option maxHeartbeats 4000000 in
theorem parse_tail {c : Code} (hc : c = frOf Tryz.f12 16) {w wc : World} {xb vb g off cap k : Nat} {n : Int} {nm : List UInt8} {rs : List (List UInt8)} (ht : Tab10 w)
  (hX : cellsAt wc xb 84 #[.int .i64 n, .int .i64 (k : Nat), .string ⟨nm.toArray⟩, .slice none 0 0]) (hV : cellsAt wc vb 130 #[.string ⟨(wordN k).toArray⟩, .bool (namedB k), .int .i64 (manyN k : Nat)]) (hR : WRow wc g off rs)
  (hB : Below w.heap.size w wc) (hxb : w.heap.size ≤ xb) (hxg : xb ≠ g) (hrl : rs.length ≤ 1000) (hrs : ∀ r ∈ rs, r.length ≤ 120)
  {v0 v1 v3 v4 v5 v6 v9 v10 v11 v12 v13 v14 v15 v16 v17 v18 v19 v20 v21 v22 v23 v24 v25 v26 v27 v28 v29 v30 v31 v32 v33 v34 v35 v36 v37 v38 v39 v40 v41 v42 v43 v44 v45 v46 v47 v48 v49 v50 v51 v52 v53 v54 v55 v56 v57 v58 v59 v60 v61 v62 v63 v64 v65 v66 v67 v68 v69 v70 v71 v72 v73 v74 v75 v76 v77 v78 v79 v80 v81 v82 v83 v84 v85 v86 v87 v88 v89 v90 v91 v92 v93 v94 v95 v96 v97 v98 v99 v100 v101 v102 v103 v104 v105 v106 v107 v108 v109 v110 v111 v112 v113 : Value} :
  Code.wp Tryz.prog c (bodyPost Tryz.prog Tryz.f12 (LineEnd w (tailV n k nm rs))) { tmps := #[v0, v1, .pointer (some ⟨xb, 0, none⟩), v3, v4, v5, v6, .pointer (some ⟨vb, 0, none⟩), .slice (some ⟨g, off, none⟩) rs.length cap, v9, v10, v11, v12, v13, v14, v15, v16, v17, v18, v19, v20, v21, v22, v23, v24, v25, v26, v27, v28, v29, v30, v31, v32, v33, v34, v35, v36, v37, v38, v39, v40, v41, v42, v43, v44, v45, v46, v47, v48, v49, v50, v51, v52, v53, v54, v55, v56, v57, v58, v59, v60, v61, v62, v63, v64, v65, v66, v67, v68, v69, v70, v71, v72, v73, v74, v75, v76, v77, v78, v79, v80, v81, v82, v83, v84, v85, v86, v87, v88, v89, v90, v91, v92, v93, v94, v95, v96, v97, v98, v99, v100, v101, v102, v103, v104, v105, v106, v107, v108, v109, v110, v111, v112, v113], defers := [] } wc := by
  subst hc
  conv => arg 2; whnf
  obtain ⟨i0, hi, hz0, hz1, hz2⟩ := info_parts Tryz.info3
  have HTV := Lib.hid (tailV_eq n k nm rs)
  generalize tailV n k nm rs = tv at *
  generalize wordN k = wd at *
  generalize namedB k = nd at *
  generalize manyN k = m at *
  obtain ⟨x0, x1, x2, x3⟩ := cells4 hX
  obtain ⟨z0, z1, z2, z3⟩ := frz4 hX
  obtain ⟨y0, y1, y2⟩ := cells3 hV
  by_cases hm : rs.length = m
  · have hmm : ((rs.length : Int) != (m : Int)) = false := by simp [hm]
    have HTW : Hid (tv = numsV n k nm (rs.mapM numO)) := by unfold Hid; rw [HTV.out, if_pos hm]
    have HM := Lib.hid hm
    clear hm HTV
    have hxl := hX.lt
    have hgl := hR.hg
    have HR0 := Lib.hid hR
    have HT0 := Lib.hid ht
    clear hR ht
    go_wp2_with fail
    go_loopw [85] (fun i wr => ∃ (j : Nat) (ns : List Int) (v : Value), j ≤ rs.length ∧ i = .int .i64 j ∧ Hid ((rs.take j).mapM numO = some ns) ∧ Hid (ns.length = j) ∧ cellsAt wr xb 84 #[.int .i64 n, .int .i64 (k : Nat), .string ⟨nm.toArray⟩, v] ∧ wr.ownsRow wc.heap.size 3 1 v ns.length (ns.map (Value.int .i64)) ∧ Hid (WRow wr g off rs) ∧ Below w.heap.size w wr ∧ wc.heap.size ≤ wr.heap.size) (fun i _ => rs.length - (intOf i).toNat)
    case atStart => exact ⟨0, [], .slice none 0 0, Nat.zero_le _, rfl, show _ = _ from rfl, show _ = _ from rfl, hX, World.ownsRow_nil _ _ _ _, HR0, hB, Nat.le_refl _⟩
    case round =>
      obtain ⟨j, ns, v, hj, rfl, HJ, HNL, hXj, hOj, HRj, hBw, hsz⟩ := hrel
      clear HR0 hX hB x0 x1 x2 x3 z0 z1 z2 z3
      obtain ⟨q0, q1, q2, q3⟩ := cells4 hXj
      obtain ⟨z0, z1, z2, z3⟩ := frz4 hXj
      have hnl : ns.length ≤ 1000 := by have := HNL.out; omega
      by_cases hlt : j < rs.length
      · have s0 := HRj.out.cell j hlt
        have i2 : (j : Int) < (rs.length : Int) := by omega
        have HSN := Lib.hid (take_snoc_getD [] hlt)
        have HMEM := Lib.hid (getD_mem (d := []) hlt)
        have hr120 := hrs _ HMEM.out
        generalize rs.getD j [] = r at *
        have HNUM := Lib.hid (number_any r hr120 wr (HT0.out.below hBw))
        go_wp2_with fail
        cases hq : numO r with
        | none =>
          have HTX : Hid (tv = (zeroOL, 6)) := by unfold Hid; rw [HTW.out, mapM_none HMEM.out hq]; rfl
          rw [hq] at HNUM
          refine HNUM.out.mono ?_
          rintro e w2 ⟨rfl, hb2⟩
          have hX2 := hXj.below hb2
          have hB2 := below_trans hBw hb2
          clear q0 q1 q2 q3 z0 z1 z2 z3
          obtain ⟨q0, q1, q2, q3⟩ := cells4 hX2
          obtain ⟨z0, z1, z2, z3⟩ := frz4 hX2
          unfold numT
          go_wp2_with fail
          obtain ⟨f0, f1, f2, f3⟩ := cells4 (set4 hX2 (.int .i64 0) (.int .i64 0) (.string ⟨#[]⟩) (.slice none 0 0))
          (try simp only [Exit.inBlock, Exit.then])
          show bodyPost _ _ _ _ _ _
          refine bodyPost_ret (P := Tryz.prog) (fn := Tryz.f12) (v := .tuple #[.agg #[.int .i64 0, .int .i64 0, .string ⟨#[]⟩, .slice none 0 0], .int .i64 6]) ?_ rfl ?_
          · simp [results, Tryz.results12, go_sem, f0, f1, f2, f3]
          rw [HTX.out]
          exact LineEnd.bad (set4_below hB2 hxb _ _ _ _)
        | some nq =>
          have HJ2 : Hid ((rs.take (j + 1)).mapM numO = some (ns ++ [nq])) := by unfold Hid; rw [HSN.out, mapM_snoc, HJ.out]; simp only [hq]
          rw [hq] at HNUM
          refine HNUM.out.mono ?_
          rintro e w2 ⟨rfl, hb2⟩
          have hX2 := hXj.below hb2
          have hB2 : Below w.heap.size w w2 := below_trans hBw hb2
          have HO2 := Lib.hid (ownsRow_below hOj hb2)
          have HR2 := Lib.hid (HRj.out.below hb2)
          have hsz2 : wr.heap.size ≤ w2.heap.size := hb2.size
          clear q0 q1 q2 q3 z0 z1 z2 z3 hOj HRj hb2
          obtain ⟨q0, q1, q2, q3⟩ := cells4 hX2
          obtain ⟨z0, z1, z2, z3⟩ := frz4 hX2
          unfold numT
          go_wp2_with ((at_builtin; refine wpList_append_lies _ (by rfl) _ _ _ (by rfl) wc.heap.size 3 i0 _ 1 8 Tryz.underlying23 hi hz0 hz1 hz2 rfl (by omega) v ns.length _ (by rfl) (World.ownsRow.alloc HO2.out _) ⟨w2.heap.size, 0, none⟩ 1 1 [.int .i64 nq] (by rfl) (by rfl) (World.news_of_block (cs := #[.int .i64 nq]) (t := 3) (fr := (0, 0)) (alloc_new w2 _)) (by simp [Value.oneCell']) (by omega) (by unfold maxLen; omega) (by omega) (by have := hB2.size; have := hBw.size; simp; omega) (w2.heap.size + 1) (by simp) ?_))
          intro g7 cap7 w7 hown7 hgrow hat hlt7
          have hn0 := rows_ne HO2.out (b := xb) hxl
          have hn1 := rows_ne HO2.out (b := g) hgl
          have hba : Below w2.heap.size w2 (w2.alloc (.cells #[.int .i64 nq] 3)) := balloc (Below.refl _ _) _
          have hX7 := cells_grown (hX2.below hba) hgrow hn0
          have HR7 := Lib.hid ((HR2.out.below hba).grown hgrow hn1)
          have hB7 : Below w.heap.size w w7 := grow_below (balloc hB2 _) hgrow (fun x hx => by have := (HO2.out.lt x hx).1; have := hBw.size; omega)
          clear hat q0 q1 q2 q3
          obtain ⟨q0, q1, q2, q3⟩ := cells4 hX7
          obtain ⟨z0, z1, z2, z3⟩ := frz4 hX7
          go_wp2_with fail
          go_roundw
          case rel =>
            exact ⟨j + 1, ns ++ [nq], .slice (some ⟨g7, 0, none⟩) (ns.length + 1) cap7, by omega, by go_num, HJ2, (by have := HNL.out; show _ = _; simp; omega), hX7.set 3 _, (by
              have h := ownsRow_setCell_below hown7 (a := ⟨xb, 3, none⟩) hxl (.slice (some ⟨g7, 0, none⟩) (ns.length + 1) cap7)
              rw [List.map_append, List.length_append]; exact h), HR7.out.set (by show xb ≠ g; omega) _, Below.setCell hB7 hxb _, by (have := hgrow.size; have := hba.size; simp [World.setCell] at *; omega)⟩
          case measure => simp [intOf]; omega
      · obtain rfl : j = rs.length := by omega
        have HTX : Hid (tv = if farB ⟨n, k, nm, ns⟩ then (zeroOL, 7) else (⟨n, k, nm, ns⟩, 0)) := by
          unfold Hid
          have h := HJ.out
          rw [List.take_length] at h
          rw [HTW.out, h]; rfl
        clear HTW HJ
        have hri := rowI_of_own hOj
        obtain ⟨va, vc, rfl, hx⟩ := id hri
        clear hx
        have HO1 := Lib.hid (fun W => out_any n 0 100000 W)
        go_wp2_with fail
        cases ho : outI n 0 100000 with
        | true =>
          rw [ho] at HO1
          have HTY : Hid (tv = (zeroOL, 7)) := by unfold Hid; rw [HTX.out]; unfold farB; simp only; rw [ho]; rfl
          refine (HO1.out _).mono ?_
          rintro e w3 ⟨rfl, rfl⟩
          go_wp2_with fail
          obtain ⟨f0, f1, f2, f3⟩ := cells4 (set4 hXj (.int .i64 0) (.int .i64 0) (.string ⟨#[]⟩) (.slice none 0 0))
          (try simp only [Exit.inBlock, Exit.then])
          show bodyPost _ _ _ _ _ _
          refine bodyPost_ret (P := Tryz.prog) (fn := Tryz.f12) (v := .tuple #[.agg #[.int .i64 0, .int .i64 0, .string ⟨#[]⟩, .slice none 0 0], .int .i64 7]) ?_ rfl ?_
          · simp [results, Tryz.results12, go_sem, f0, f1, f2, f3]
          rw [HTY.out]
          exact LineEnd.bad (set4_below hBw hxb _ _ _ _)
        | false =>
          rw [ho] at HO1
          refine (HO1.out _).mono ?_
          rintro e w3 ⟨rfl, rfl⟩
          have HC := Lib.hid (contains_big _ ns wr hri (by omega))
          go_wp2_with fail
          cases hb : ns.any bigB with
          | true =>
            rw [hb] at HC
            have HTY : Hid (tv = (zeroOL, 7)) := by
              unfold Hid
              rw [HTX.out]; unfold farB; simp only; rw [ho, show (ns.any fun n => outI n (-1000000000000) 1000000000000) = true from hb]; rfl
            refine HC.out.mono ?_
            rintro e w3 ⟨rfl, hb3⟩
            have hX3 := hXj.below hb3
            have hB3 := below_trans hBw hb3
            clear q0 q1 q2 q3 z0 z1 z2 z3
            obtain ⟨q0, q1, q2, q3⟩ := cells4 hX3
            obtain ⟨z0, z1, z2, z3⟩ := frz4 hX3
            go_wp2_with fail
            obtain ⟨f0, f1, f2, f3⟩ := cells4 (set4 hX3 (.int .i64 0) (.int .i64 0) (.string ⟨#[]⟩) (.slice none 0 0))
            (try simp only [Exit.inBlock, Exit.then])
            show bodyPost _ _ _ _ _ _
            refine bodyPost_ret (P := Tryz.prog) (fn := Tryz.f12) (v := .tuple #[.agg #[.int .i64 0, .int .i64 0, .string ⟨#[]⟩, .slice none 0 0], .int .i64 7]) ?_ rfl ?_
            · simp [results, Tryz.results12, go_sem, f0, f1, f2, f3]
            rw [HTY.out]
            exact LineEnd.bad (set4_below hB3 hxb _ _ _ _)
          | false =>
            rw [hb] at HC
            have HTY : Hid (tv = (⟨n, k, nm, ns⟩, 0)) := by
              unfold Hid
              rw [HTX.out]; unfold farB; simp only; rw [ho, show (ns.any fun n => outI n (-1000000000000) 1000000000000) = false from hb]; rfl
            refine HC.out.mono ?_
            rintro e w3 ⟨rfl, hb3⟩
            have hX3 := hXj.below hb3
            have hB3 := below_trans hBw hb3
            have hO3 := ownsRow_below hOj hb3
            clear q0 q1 q2 q3 z0 z1 z2 z3
            obtain ⟨q0, q1, q2, q3⟩ := cells4 hX3
            obtain ⟨z0, z1, z2, z3⟩ := frz4 hX3
            go_wp2_with fail
            obtain ⟨f0, f1, f2, f3⟩ := cells4 (set4 hX3 (.int .i64 n) (.int .i64 (k : Nat)) (.string ⟨nm.toArray⟩) (.slice va ns.length vc))
            (try simp only [Exit.inBlock, Exit.then])
            show bodyPost _ _ _ _ _ _
            refine bodyPost_ret (P := Tryz.prog) (fn := Tryz.f12) (v := .tuple #[.agg #[.int .i64 n, .int .i64 (k : Nat), .string ⟨nm.toArray⟩, .slice va ns.length vc], .int .i64 0]) ?_ rfl ?_
            · simp [results, Tryz.results12, go_sem, f0, f1, f2, f3]
            rw [HTY.out]
            exact ⟨_, rfl, rowI_of_own (ownsRow_setCell_below (ownsRow_setCell_below (ownsRow_setCell_below (ownsRow_setCell_below hO3 hxl _) hxl _) hxl _) hxl _), Below.setCell (Below.setCell (Below.setCell (Below.setCell hB3 hxb _) hxb _) hxb _) hxb _⟩
  · have hmm : ((rs.length : Int) != (m : Int)) = true := by rw [bne_iff_ne]; omega
    have HTX : Hid (tv = (zeroOL, 6)) := by unfold Hid; rw [HTV.out, if_neg hm]
    clear hm HTV
    go_wp2_with fail
    obtain ⟨f0, f1, f2, f3⟩ := cells4 (set4 hX (.int .i64 0) (.int .i64 0) (.string ⟨#[]⟩) (.slice none 0 0))
    (try simp only [Exit.inBlock, Exit.then])
    show bodyPost _ _ _ _ _ _
    refine bodyPost_ret (P := Tryz.prog) (fn := Tryz.f12) (v := .tuple #[.agg #[.int .i64 0, .int .i64 0, .string ⟨#[]⟩, .slice none 0 0], .int .i64 6]) ?_ rfl ?_
    · simp [results, Tryz.results12, go_sem, f0, f1, f2, f3]
    rw [HTX.out]
    exact LineEnd.bad (set4_below hB hxb _ _ _ _)
end Go.Proofs.YtkjajpfgdjfcoaaGreatDoor
namespace Go.Proofs.YtkjajpfgdjfcoaaGreatDoor
/-- what the words of a line are, with what is returned -/
def formP (num : List UInt8 → Option Int) (ws : List (List UInt8)) : OL × Int :=
  match formO num ws with
  | none => (zeroOL, 6)
  | some x => if farB x then (zeroOL, 7) else (x, 0)
def tailP (num : List UInt8 → Option Int) (n : Int) (k : Nat) (nm : List UInt8) (rs : List (List UInt8)) : OL × Int :=
  match numsOf num n k nm rs with
  | none => (zeroOL, 6)
  | some x => if farB x then (zeroOL, 7) else (x, 0)
theorem line_long {num : List UInt8 → Option Int} {s : List UInt8} (h : 120 < s.length) : (lineV num s, lineE num s) = (zeroOL, 3) := by
  unfold lineV lineE
  rw [if_pos h, if_pos h]
theorem line_form {num : List UInt8 → Option Int} {s : List UInt8} (h : ¬ 120 < s.length) : (lineV num s, lineE num s) = formP num (wordsL s) := by
  unfold lineV lineE formP
  rw [if_neg h, if_neg h]
  cases formO num (wordsL s) with
  | none => rfl
  | some x => simp only; split <;> rfl
section
variable {num : List UInt8 → Option Int}
theorem formP_none {ws : List (List UInt8)} (h : formO num ws = none) : formP num ws = (zeroOL, 6) := by unfold formP; rw [h]
theorem formP_short {ws : List (List UInt8)} (h : ws.length < 3) : formP num ws = (zeroOL, 6) := by
  apply formP_none
  match ws, h with
  | [], _ => rfl
  | [_], _ => rfl
  | [_, _], _ => rfl
variable {a t v : List UInt8} {rest : List (List UInt8)}
theorem formP_at (h : a ≠ wAt) : formP num (a :: t :: v :: rest) = (zeroOL, 6) := by
  apply formP_none; simp only [formO]; rw [if_neg h]
theorem formP_num (h : num t = none) : formP num (a :: t :: v :: rest) = (zeroOL, 6) := by
  apply formP_none; simp only [formO]; rw [h]; split <;> rfl
theorem formP_verb (h : verbOf v = 0) : formP num (a :: t :: v :: rest) = (zeroOL, 6) := by
  apply formP_none; simp only [formO, h, if_true]; split
  · cases num t <;> rfl
  · rfl
theorem formP_plain {n : Int} (h1 : a = wAt) (h2 : num t = some n) (h3 : verbOf v ≠ 0) (h4 : namedB (verbOf v) = false) : formP num (a :: t :: v :: rest) = tailP num n (verbOf v) [] rest := by
  have : formO num (a :: t :: v :: rest) = numsOf num n (verbOf v) [] rest := by
    simp only [formO]; rw [if_pos h1, h2]; simp only; rw [if_neg h3, h4]; rfl
  unfold formP tailP; rw [this]
theorem formP_nil (h4 : namedB (verbOf v) = true) : formP num [a, t, v] = (zeroOL, 6) := by
  apply formP_none; simp only [formO, h4, if_true]; split
  · cases num t with
    | none => rfl
    | some n => simp only; split <;> rfl
  · rfl
theorem formP_name {nm : List UInt8} {rs : List (List UInt8)} (h4 : namedB (verbOf v) = true) (h5 : nameB nm = false) : formP num (a :: t :: v :: nm :: rs) = (zeroOL, 6) := by
  apply formP_none; simp only [formO, h4, h5, if_true]; split
  · cases num t with
    | none => rfl
    | some n => simp only; split <;> rfl
  · rfl
theorem formP_named {n : Int} {nm : List UInt8} {rs : List (List UInt8)} (h1 : a = wAt) (h2 : num t = some n) (h3 : verbOf v ≠ 0) (h4 : namedB (verbOf v) = true) (h5 : nameB nm = true) : formP num (a :: t :: v :: nm :: rs) = tailP num n (verbOf v) nm rs := by
  have : formO num (a :: t :: v :: nm :: rs) = numsOf num n (verbOf v) nm rs := by
    simp only [formO]; rw [if_pos h1, h2]; simp only; rw [if_neg h3, h4, h5]; rfl
  unfold formP tailP; rw [this]
end
theorem words_bound : ∀ (s : List UInt8), ∀ w ∈ wordsL s, w.length ≤ s.length
  | [], w, h => by simp [wordsL] at h; subst h; simp
  | c :: s, w, h => by
    have ih := words_bound s
    by_cases hc : c = 32
    · simp only [wordsL, if_pos hc] at h
      rcases List.mem_cons.1 h with rfl | h
      · simp
      · have := ih w h; simp; omega
    · simp only [wordsL, if_neg hc] at h
      cases hw : wordsL s with
      | nil => exact absurd hw (wordsL_ne s)
      | cons a l =>
        rw [hw] at h ih
        simp only at h
        rcases List.mem_cons.1 h with rfl | h
        · have := ih a (by simp); simp; omega
        · have := ih w (by simp [h]); simp; omega
end Go.Proofs.YtkjajpfgdjfcoaaGreatDoor
namespace Go.Proofs.YtkjajpfgdjfcoaaGreatDoor
open Go.RowKit
/-- what region 11 of Parse reads -/
structure S11 (xb wb k : Nat) (sv : Value) (w : World) : Prop where
  x : w.cell? ⟨xb, 1, none⟩ = some (.int .i64 (k : Nat))
  b : w.cell? ⟨wb, 0, none⟩ = some sv
theorem S11.below {xb wb k : Nat} {sv : Value} {w w' : World} (h : S11 xb wb k sv w) (hb : Below w.heap.size w w') : S11 xb wb k sv w' :=
  ⟨(hb.cell (World.block_lt_of_cell? w _ h.x)).trans h.x, (hb.cell (World.block_lt_of_cell? w _ h.b)).trans h.b⟩
/-- the same, with a verb of the table -/
structure S12 (xb wb k b : Nat) (sv : Value) (w : World) : Prop where
  s : S11 xb wb k sv w
  v : VerbsAt w b
theorem S12.belowB {B xb wb k b : Nat} {sv : Value} {w w' : World} (h : S12 xb wb k b sv w) (hx : xb < B) (hw : wb < B) (hv : b < B) (hb : Below B w w') : S12 xb wb k b sv w' :=
  ⟨⟨(hb.cell (p := ⟨xb, 1, none⟩) hx).trans h.s.x, (hb.cell (p := ⟨wb, 0, none⟩) hw).trans h.s.b⟩, ⟨fun i x hi => (hb.cell (p := ⟨b, i, none⟩) hv).trans (h.v.cell i x hi), Nat.lt_of_lt_of_le h.v.hb hb.size⟩⟩
theorem cell_set {w : World} {p a : Addr} {u v : Value} (h : w.cell? a = some v) (hn : p.block ≠ a.block) : (w.setCell p u).cell? a = some v := by
  have hk := Below.heap_setCell w p u a.block (fun e => hn e.symm)
  unfold World.cell? at h ⊢
  simp only [hk]
  exact h
theorem S12.set {xb wb k b : Nat} {sv : Value} {w : World} (h : S12 xb wb k b sv w) {p : Addr} (hx : p.block ≠ xb) (hw : p.block ≠ wb) (hv : p.block ≠ b) (u : Value) : S12 xb wb k b sv (w.setCell p u) :=
  ⟨⟨cell_set h.s.x hx, cell_set h.s.b hw⟩, ⟨fun i x hi => cell_set (h.v.cell i x hi) hv, by have := h.v.hb; simpa [World.setCell] using this⟩⟩
theorem S12.below {xb wb k b : Nat} {sv : Value} {w w' : World} (h : S12 xb wb k b sv w) (hb : Below w.heap.size w w') : S12 xb wb k b sv w' := ⟨h.s.below hb, h.v.below hb⟩
/-- w[3:] -/
theorem sl3_run (g r c : Nat) (hc : r + 3 ≤ c) : ∃ off, (∀ w : World, (Instr.sliceAt 22 (.slice (some ⟨g, 0, none⟩) (r + 3) c) (some (.int .i64 3)) none none).run Tryz.prog w = .ok (.slice (some ⟨g, off, none⟩) r (c - 3)) w) ∧ (r = 0 ∨ off = 3) := by
  refine ⟨if c = 3 then 0 else 3, fun w => ?_, ?_⟩
  · by_cases h : c = 3
    · simp [go_sem, h, Tryz.underlying22]; intro hx; omega
    · simp [go_sem, h, Tryz.underlying22]; omega
  · by_cases h : c = 3
    · exact .inl (by omega)
    · exact .inr (by simp [h])
set_option maxRecDepth 100000 in
set_option maxHeartbeats 4000000 in
theorem parse_reg11 {c : Code} (hc : c = rgOf Tryz.f12 11) {wc : World} {xb wb g r cap k : Nat} {Q : Exit → Act → World → Prop}
  (hS : S11 xb wb k (.slice (some ⟨g, 0, none⟩) (r + 3) cap) wc) (hk : k < 18) (hcap : r + 3 ≤ cap)
  {v0 v1 v3 v5 v6 v9 v10 v11 v12 v13 v14 v15 v16 v17 v18 v19 v20 v21 v22 v23 v24 v25 v26 v27 v28 v29 v30 v31 v32 v33 v34 v35 v36 v37 v38 v39 v40 v41 v42 v43 v44 v45 v46 v47 v48 v49 v50 v51 v52 v53 v54 v55 v56 v57 v58 v59 v60 v61 v62 v63 v64 v65 v66 v67 v68 v69 v70 v71 v72 v73 v74 v75 v76 v77 v78 v79 v80 v81 v82 v83 v84 v85 v86 v87 v88 v89 v90 v91 v92 v93 v94 v95 v96 v97 v98 v99 v100 v101 v102 v103 v104 v105 v106 v107 v108 v109 v110 v111 v112 v113 : Value}
  (v7 v8 : Value)
  (hK : ∀ (u51 u52 u53 u54 u55 u56 u57 : Value) (vb off : Nat) (w' : World), Below wc.heap.size wc w' → cellsAt w' vb 130 #[.string ⟨(wordN k).toArray⟩, .bool (namedB k), .int .i64 (manyN k : Nat)] → wc.heap.size ≤ vb → (r = 0 ∨ off = 3) →
    Q Exit.normal { tmps := #[v0, v1, .pointer (some ⟨xb, 0, none⟩), v3, .pointer (some ⟨wb, 0, none⟩), v5, v6, .pointer (some ⟨vb, 0, none⟩), .slice (some ⟨g, off, none⟩) r (cap - 3), v9, v10, v11, v12, v13, v14, v15, v16, v17, v18, v19, v20, v21, v22, v23, v24, v25, v26, v27, v28, v29, v30, v31, v32, v33, v34, v35, v36, v37, v38, v39, v40, v41, v42, v43, v44, v45, v46, v47, v48, v49, v50, u51, u52, u53, u54, u55, u56, u57, v58, v59, v60, v61, v62, v63, v64, v65, v66, v67, v68, v69, v70, v71, v72, v73, v74, v75, v76, v77, v78, v79, v80, v81, v82, v83, v84, v85, v86, v87, v88, v89, v90, v91, v92, v93, v94, v95, v96, v97, v98, v99, v100, v101, v102, v103, v104, v105, v106, v107, v108, v109, v110, v111, v112, v113], defers := [] } w') :
  Code.wp Tryz.prog c Q { tmps := #[v0, v1, .pointer (some ⟨xb, 0, none⟩), v3, .pointer (some ⟨wb, 0, none⟩), v5, v6, v7, v8, v9, v10, v11, v12, v13, v14, v15, v16, v17, v18, v19, v20, v21, v22, v23, v24, v25, v26, v27, v28, v29, v30, v31, v32, v33, v34, v35, v36, v37, v38, v39, v40, v41, v42, v43, v44, v45, v46, v47, v48, v49, v50, v51, v52, v53, v54, v55, v56, v57, v58, v59, v60, v61, v62, v63, v64, v65, v66, v67, v68, v69, v70, v71, v72, v73, v74, v75, v76, v77, v78, v79, v80, v81, v82, v83, v84, v85, v86, v87, v88, v89, v90, v91, v92, v93, v94, v95, v96, v97, v98, v99, v100, v101, v102, v103, v104, v105, v106, v107, v108, v109, v110, v111, v112, v113], defers := [] } wc := by
  subst hc
  conv => arg 2; whnf
  have HKK := Lib.hid hK
  clear hK
  obtain ⟨off, hsl, hoff⟩ := sl3_run g r cap hcap
  have j2 : (k : Int) < 18 := by omega
  have hB : Below wc.heap.size wc wc.drew := (Below.refl _ _).drew
  have hH : S11 xb wb k (.slice (some ⟨g, 0, none⟩) (r + 3) cap) wc.drew := hS.below hB
  have hS0 := hS
  clear hS
  refine wp_region_noPanic ?_
  refine wp_region_held_drew (S := S11 xb wb k (.slice (some ⟨g, 0, none⟩) (r + 3) cap)) (by kernel_rfl) hH (fun _ => ?_)
  first | (refine wpAnyH_take (i := 1) (v := ?_) rfl (by kernel_rfl) (by kernel_rfl) (by kernel_rfl) (fun _ _ _ h => h) (Or.inl ⟨by rfl, ?_⟩) hH ?_; rotate_left; (focus (intro w' hSw; obtain ⟨z0, z1⟩ := hSw; (try obtain ⟨s0, s1, s2⟩ := zv.at_ hk); (try unfold encB at s0); go_simp; (try with_reducible rfl); done)); (try simp only [Act.put, List.setIfInBounds_toArray, List.set_cons_zero, List.set_cons_succ, List.getElem_toArray, List.getElem_cons_succ, List.getElem_cons_zero])) | (refine wpAnyH_take (i := 1) (v := undef) rfl (by kernel_rfl) (by kernel_rfl) (by kernel_rfl) (fun _ _ _ h => h) (Or.inr ⟨by rfl, rfl⟩) hH ?_; (try simp only [Act.put, List.setIfInBounds_toArray, List.set_cons_zero, List.set_cons_succ, List.getElem_toArray, List.getElem_cons_succ, List.getElem_cons_zero]))
  first | (refine wpAnyH_take (i := 2) (v := ?_) rfl (by kernel_rfl) (by kernel_rfl) (by kernel_rfl) (fun _ _ _ h => h) (Or.inl ⟨by rfl, ?_⟩) hH ?_; rotate_left; (focus (intro w' hSw; obtain ⟨z0, z1⟩ := hSw; (try obtain ⟨s0, s1, s2⟩ := zv.at_ hk); (try unfold encB at s0); go_simp; (try with_reducible rfl); done)); (try simp only [Act.put, List.setIfInBounds_toArray, List.set_cons_zero, List.set_cons_succ, List.getElem_toArray, List.getElem_cons_succ, List.getElem_cons_zero])) | (refine wpAnyH_take (i := 2) (v := undef) rfl (by kernel_rfl) (by kernel_rfl) (by kernel_rfl) (fun _ _ _ h => h) (Or.inr ⟨by rfl, rfl⟩) hH ?_; (try simp only [Act.put, List.setIfInBounds_toArray, List.set_cons_zero, List.set_cons_succ, List.getElem_toArray, List.getElem_cons_succ, List.getElem_cons_zero]))
  first | (refine wpAnyH_take (i := 5) (v := ?_) rfl (by kernel_rfl) (by kernel_rfl) (by kernel_rfl) (fun _ _ _ h => h) (Or.inl ⟨by rfl, ?_⟩) hH ?_; rotate_left; (focus (intro w' hSw; obtain ⟨z0, z1⟩ := hSw; (try obtain ⟨s0, s1, s2⟩ := zv.at_ hk); (try unfold encB at s0); go_simp; (try with_reducible rfl); done)); (try simp only [Act.put, List.setIfInBounds_toArray, List.set_cons_zero, List.set_cons_succ, List.getElem_toArray, List.getElem_cons_succ, List.getElem_cons_zero])) | (refine wpAnyH_take (i := 5) (v := undef) rfl (by kernel_rfl) (by kernel_rfl) (by kernel_rfl) (fun _ _ _ h => h) (Or.inr ⟨by rfl, rfl⟩) hH ?_; (try simp only [Act.put, List.setIfInBounds_toArray, List.set_cons_zero, List.set_cons_succ, List.getElem_toArray, List.getElem_cons_succ, List.getElem_cons_zero]))
  first | (refine wpAnyH_take (i := 6) (v := ?_) rfl (by kernel_rfl) (by kernel_rfl) (by kernel_rfl) (fun _ _ _ h => h) (Or.inl ⟨by rfl, ?_⟩) hH ?_; rotate_left; (focus (intro w' hSw; obtain ⟨z0, z1⟩ := hSw; (try obtain ⟨s0, s1, s2⟩ := zv.at_ hk); (try unfold encB at s0); go_simp; (try with_reducible rfl); done)); (try simp only [Act.put, List.setIfInBounds_toArray, List.set_cons_zero, List.set_cons_succ, List.getElem_toArray, List.getElem_cons_succ, List.getElem_cons_zero])) | (refine wpAnyH_take (i := 6) (v := undef) rfl (by kernel_rfl) (by kernel_rfl) (by kernel_rfl) (fun _ _ _ h => h) (Or.inr ⟨by rfl, rfl⟩) hH ?_; (try simp only [Act.put, List.setIfInBounds_toArray, List.set_cons_zero, List.set_cons_succ, List.getElem_toArray, List.getElem_cons_succ, List.getElem_cons_zero]))
  refine wpAnyH_ready (rs := [0, 7]) (by kernel_rfl) (by simp) (AllReadyH.cons rfl (fun K' hK' => ?_) (AllReadyH.cons rfl (fun K' hK' => ?_) AllReadyH.nil))
  · go_simp
    refine (verbs_any _).mono ?_
    rintro e w1 ⟨rfl, hw1⟩
    (try dsimp only)
    have hV1 := verbs_new wc.drew
    have hb1 : Below wc.drew.heap.size wc.drew w1 := by rw [hw1]; exact balloc (Below.refl _ _) _
    have hB1 := below_trans hB hb1
    have hH1 := hH.below hb1
    have hG : S12 xb wb k wc.heap.size (.slice (some ⟨g, 0, none⟩) (r + 3) cap) w1 := ⟨hH1, by rw [hw1]; exact hV1⟩
    have hz1 : wc.heap.size + 1 ≤ w1.heap.size := by rw [hw1]; simp
    clear hw1 hV1 hb1
    refine hK'.out _ _ hH1 (fun _ => ?_)
    refine wpAnyH_weaken (S' := S12 xb wb k wc.heap.size (.slice (some ⟨g, 0, none⟩) (r + 3) cap)) (fun _ h => h.s) _ _ _ _ ?_
    clear hK' K'
    (try simp only [Act.put, List.setIfInBounds_toArray, List.set_cons_zero, List.set_cons_succ, List.getElem_toArray, List.getElem_cons_succ, List.getElem_cons_zero])
    first | (refine wpAnyH_take (i := 3) (v := ?_) rfl (by kernel_rfl) (by kernel_rfl) (by kernel_rfl) (fun _ _ _ h => h) (Or.inl ⟨by rfl, ?_⟩) hG ?_; rotate_left; (focus (intro w' hSw; obtain ⟨⟨z0, z1⟩, zv⟩ := hSw; (try obtain ⟨s0, s1, s2⟩ := zv.at_ hk); (try unfold encB at s0); go_simp; (try with_reducible rfl); done)); (try simp only [Act.put, List.setIfInBounds_toArray, List.set_cons_zero, List.set_cons_succ, List.getElem_toArray, List.getElem_cons_succ, List.getElem_cons_zero])) | (refine wpAnyH_take (i := 3) (v := undef) rfl (by kernel_rfl) (by kernel_rfl) (by kernel_rfl) (fun _ _ _ h => h) (Or.inr ⟨by rfl, rfl⟩) hG ?_; (try simp only [Act.put, List.setIfInBounds_toArray, List.set_cons_zero, List.set_cons_succ, List.getElem_toArray, List.getElem_cons_succ, List.getElem_cons_zero]))
    first | (refine wpAnyH_take (i := 4) (v := ?_) rfl (by kernel_rfl) (by kernel_rfl) (by kernel_rfl) (fun _ _ _ h => h) (Or.inl ⟨by rfl, ?_⟩) hG ?_; rotate_left; (focus (intro w' hSw; obtain ⟨⟨z0, z1⟩, zv⟩ := hSw; (try obtain ⟨s0, s1, s2⟩ := zv.at_ hk); (try unfold encB at s0); go_simp; (try with_reducible rfl); done)); (try simp only [Act.put, List.setIfInBounds_toArray, List.set_cons_zero, List.set_cons_succ, List.getElem_toArray, List.getElem_cons_succ, List.getElem_cons_zero])) | (refine wpAnyH_take (i := 4) (v := undef) rfl (by kernel_rfl) (by kernel_rfl) (by kernel_rfl) (fun _ _ _ h => h) (Or.inr ⟨by rfl, rfl⟩) hG ?_; (try simp only [Act.put, List.setIfInBounds_toArray, List.set_cons_zero, List.set_cons_succ, List.getElem_toArray, List.getElem_cons_succ, List.getElem_cons_zero]))
    refine wpAnyH_ready (rs := [7]) (by kernel_rfl) (by simp) (AllReadyH.cons rfl (fun K' hK' => ?_) AllReadyH.nil)
    go_simp
    have hN2 := alloc_new w1 (.cells #[.string ⟨#[]⟩, .bool false, .int .i64 0] 130)
    have hb2 := balloc (Below.refl w1.heap.size w1) (.cells #[.string ⟨#[]⟩, .bool false, .int .i64 0] 130)
    have hG2 := hG.below hb2
    have hB2 := below_trans hB1 hb2
    generalize w1.alloc (.cells #[.string ⟨#[]⟩, .bool false, .int .i64 0] 130) = w2 at *
    have hN2 : cellsAt w2 w1.heap.size 130 #[.string ⟨#[]⟩, .bool false, .int .i64 0] := hN2
    refine hK'.out _ _ hG2 (fun _ => ?_)
    clear hK' K'
    (try simp only [Act.put, List.setIfInBounds_toArray, List.set_cons_zero, List.set_cons_succ, List.getElem_toArray, List.getElem_cons_succ, List.getElem_cons_zero])
    have hxl : xb < w1.heap.size := World.block_lt_of_cell? w1 _ hG.s.x
    have hwl : wb < w1.heap.size := World.block_lt_of_cell? w1 _ hG.s.b
    have hvl := hG.v.hb
    generalize w1.heap.size = vb at *
    obtain ⟨n0, n1, n2⟩ := cells3 hN2
    have f0 := hN2.frozen 0
    have f1 := hN2.frozen 1
    have f2 := hN2.frozen 2
    refine wpAnyH_ready (rs := [8]) (by kernel_rfl) (by simp) (AllReadyH.cons rfl (fun K' hK' => ?_) AllReadyH.nil)
    go_simp
    have hb3 := set3_belowB (B := vb) (Below.refl vb w2) (Nat.le_refl vb) (.string ⟨(wordN k).toArray⟩) (.bool (namedB k)) (.int .i64 ((manyN k : Nat) : Int))
    have hN3 := set3 hN2 (.string ⟨(wordN k).toArray⟩) (.bool (namedB k)) (.int .i64 ((manyN k : Nat) : Int))
    have hG3 := ((hG2.set (p := ⟨vb, 0, none⟩) (by show vb ≠ xb; omega) (by show vb ≠ wb; omega) (by with_reducible show vb ≠ _; omega) (.string ⟨(wordN k).toArray⟩)).set (p := ⟨vb, 1, none⟩) (by show vb ≠ xb; omega) (by show vb ≠ wb; omega) (by show vb ≠ _; omega) (.bool (namedB k))).set (p := ⟨vb, 2, none⟩) (by show vb ≠ xb; omega) (by show vb ≠ wb; omega) (by show vb ≠ _; omega) (.int .i64 ((manyN k : Nat) : Int))
    have hB3 := hB2.trans (hb3.mono (by omega))
    generalize ((w2.setCell ⟨vb, 0, none⟩ (.string ⟨(wordN k).toArray⟩)).setCell ⟨vb, 1, none⟩ (.bool (namedB k))).setCell ⟨vb, 2, none⟩ (.int .i64 ((manyN k : Nat) : Int)) = w3 at *
    refine hK'.out _ _ hG3 (fun _ => ?_)
    clear hK' K'
    (try simp only [Act.put, List.setIfInBounds_toArray, List.set_cons_zero, List.set_cons_succ, List.getElem_toArray, List.getElem_cons_succ, List.getElem_cons_zero])
    first | (refine wpAnyH_take (i := 9) (v := ?_) rfl (by kernel_rfl) (by kernel_rfl) (by kernel_rfl) (fun _ _ _ h => h) (Or.inl ⟨by rfl, ?_⟩) hG3 ?_; rotate_left; (focus (intro w' hSw; obtain ⟨⟨z0, z1⟩, zv⟩ := hSw; (try obtain ⟨s0, s1, s2⟩ := zv.at_ hk); (try unfold encB at s0); go_simp; (try with_reducible rfl); done)); (try simp only [Act.put, List.setIfInBounds_toArray, List.set_cons_zero, List.set_cons_succ, List.getElem_toArray, List.getElem_cons_succ, List.getElem_cons_zero])) | (refine wpAnyH_take (i := 9) (v := undef) rfl (by kernel_rfl) (by kernel_rfl) (by kernel_rfl) (fun _ _ _ h => h) (Or.inr ⟨by rfl, rfl⟩) hG3 ?_; (try simp only [Act.put, List.setIfInBounds_toArray, List.set_cons_zero, List.set_cons_succ, List.getElem_toArray, List.getElem_cons_succ, List.getElem_cons_zero]))
    refine wpAnyH_done (by kernel_rfl) (NoPanic.normal ?_) _
    (try simp only [Act.put, List.setIfInBounds_toArray, List.set_cons_zero, List.set_cons_succ, List.getElem_toArray, List.getElem_cons_succ, List.getElem_cons_zero])
    exact HKK.out _ _ _ _ _ _ _ _ _ _ hB3 hN3 (by omega) hoff
  · go_simp
    have hN2 := alloc_new wc.drew (.cells #[.string ⟨#[]⟩, .bool false, .int .i64 0] 130)
    have hb1 := balloc (Below.refl wc.drew.heap.size wc.drew) (.cells #[.string ⟨#[]⟩, .bool false, .int .i64 0] 130)
    have hH1 := hH.below hb1
    have hB1 := below_trans hB hb1
    have hz1 : wc.heap.size + 1 ≤ (wc.drew.alloc (.cells #[.string ⟨#[]⟩, .bool false, .int .i64 0] 130)).heap.size := by simp
    obtain ⟨w1, hw1⟩ : ∃ w1, wc.drew.alloc (.cells #[.string ⟨#[]⟩, .bool false, .int .i64 0] 130) = w1 := ⟨_, rfl⟩
    rw [hw1] at hN2 hH1 hB1 hz1
    have hw1' : (wc.alloc (.cells #[.string ⟨#[]⟩, .bool false, .int .i64 0] 130)).drew = w1 := by rw [← hw1]; rfl
    rw [hw1']
    have hN1 : cellsAt w1 wc.heap.size 130 #[.string ⟨#[]⟩, .bool false, .int .i64 0] := hN2
    have hxl : xb < wc.heap.size := World.block_lt_of_cell? wc _ hS0.x
    have hwl : wb < wc.heap.size := World.block_lt_of_cell? wc _ hS0.b
    clear hw1 hw1' hb1 hN2
    refine hK'.out _ _ hH1 (fun _ => ?_)
    clear hK' K'
    (try simp only [Act.put, List.setIfInBounds_toArray, List.set_cons_zero, List.set_cons_succ, List.getElem_toArray, List.getElem_cons_succ, List.getElem_cons_zero])
    refine wpAnyH_ready (rs := [0]) (by kernel_rfl) (by simp) (AllReadyH.cons rfl (fun K' hK' => ?_) AllReadyH.nil)
    go_simp
    refine (verbs_any _).mono ?_
    rintro e w2 ⟨rfl, hw2⟩
    (try dsimp only)
    have hV2 := verbs_new w1
    have hb2 : Below w1.heap.size w1 w2 := by rw [hw2]; exact balloc (Below.refl _ _) _
    have hB2 := below_trans hB1 hb2
    have hH2 := hH1.below hb2
    have hN2 := hN1.below hb2
    have hG2 : S12 xb wb k w1.heap.size (.slice (some ⟨g, 0, none⟩) (r + 3) cap) w2 := ⟨hH2, by rw [hw2]; exact hV2⟩
    clear hw2 hV2 hb2 hN1
    generalize w1.heap.size = vt at *
    refine hK'.out _ _ hH2 (fun _ => ?_)
    refine wpAnyH_weaken (S' := S12 xb wb k vt (.slice (some ⟨g, 0, none⟩) (r + 3) cap)) (fun _ h => h.s) _ _ _ _ ?_
    clear hK' K'
    (try simp only [Act.put, List.setIfInBounds_toArray, List.set_cons_zero, List.set_cons_succ, List.getElem_toArray, List.getElem_cons_succ, List.getElem_cons_zero])
    first | (refine wpAnyH_take (i := 3) (v := ?_) rfl (by kernel_rfl) (by kernel_rfl) (by kernel_rfl) (fun _ _ _ h => h) (Or.inl ⟨by rfl, ?_⟩) hG2 ?_; rotate_left; (focus (intro w' hSw; obtain ⟨⟨z0, z1⟩, zv⟩ := hSw; (try obtain ⟨s0, s1, s2⟩ := zv.at_ hk); (try unfold encB at s0); go_simp; (try with_reducible rfl); done)); (try simp only [Act.put, List.setIfInBounds_toArray, List.set_cons_zero, List.set_cons_succ, List.getElem_toArray, List.getElem_cons_succ, List.getElem_cons_zero])) | (refine wpAnyH_take (i := 3) (v := undef) rfl (by kernel_rfl) (by kernel_rfl) (by kernel_rfl) (fun _ _ _ h => h) (Or.inr ⟨by rfl, rfl⟩) hG2 ?_; (try simp only [Act.put, List.setIfInBounds_toArray, List.set_cons_zero, List.set_cons_succ, List.getElem_toArray, List.getElem_cons_succ, List.getElem_cons_zero]))
    first | (refine wpAnyH_take (i := 4) (v := ?_) rfl (by kernel_rfl) (by kernel_rfl) (by kernel_rfl) (fun _ _ _ h => h) (Or.inl ⟨by rfl, ?_⟩) hG2 ?_; rotate_left; (focus (intro w' hSw; obtain ⟨⟨z0, z1⟩, zv⟩ := hSw; (try obtain ⟨s0, s1, s2⟩ := zv.at_ hk); (try unfold encB at s0); go_simp; (try with_reducible rfl); done)); (try simp only [Act.put, List.setIfInBounds_toArray, List.set_cons_zero, List.set_cons_succ, List.getElem_toArray, List.getElem_cons_succ, List.getElem_cons_zero])) | (refine wpAnyH_take (i := 4) (v := undef) rfl (by kernel_rfl) (by kernel_rfl) (by kernel_rfl) (fun _ _ _ h => h) (Or.inr ⟨by rfl, rfl⟩) hG2 ?_; (try simp only [Act.put, List.setIfInBounds_toArray, List.set_cons_zero, List.set_cons_succ, List.getElem_toArray, List.getElem_cons_succ, List.getElem_cons_zero]))
    generalize hvb : wc.heap.size = vb at *
    obtain ⟨n0, n1, n2⟩ := cells3 hN2
    have f0 := hN2.frozen 0
    have f1 := hN2.frozen 1
    have f2 := hN2.frozen 2
    refine wpAnyH_ready (rs := [8]) (by kernel_rfl) (by simp) (AllReadyH.cons rfl (fun K' hK' => ?_) AllReadyH.nil)
    go_simp
    have hb3 := set3_belowB (B := vb) (Below.refl vb w2) (Nat.le_refl vb) (.string ⟨(wordN k).toArray⟩) (.bool (namedB k)) (.int .i64 ((manyN k : Nat) : Int))
    have hN3 := set3 hN2 (.string ⟨(wordN k).toArray⟩) (.bool (namedB k)) (.int .i64 ((manyN k : Nat) : Int))
    have hG3 := ((hG2.set (p := ⟨vb, 0, none⟩) (by show vb ≠ xb; omega) (by show vb ≠ wb; omega) (by with_reducible show vb ≠ _; omega) (.string ⟨(wordN k).toArray⟩)).set (p := ⟨vb, 1, none⟩) (by show vb ≠ xb; omega) (by show vb ≠ wb; omega) (by show vb ≠ _; omega) (.bool (namedB k))).set (p := ⟨vb, 2, none⟩) (by show vb ≠ xb; omega) (by show vb ≠ wb; omega) (by show vb ≠ _; omega) (.int .i64 ((manyN k : Nat) : Int))
    have hB3 := hB2.trans (hb3.mono (by omega))
    generalize ((w2.setCell ⟨vb, 0, none⟩ (.string ⟨(wordN k).toArray⟩)).setCell ⟨vb, 1, none⟩ (.bool (namedB k))).setCell ⟨vb, 2, none⟩ (.int .i64 ((manyN k : Nat) : Int)) = w3 at *
    refine hK'.out _ _ hG3 (fun _ => ?_)
    clear hK' K'
    (try simp only [Act.put, List.setIfInBounds_toArray, List.set_cons_zero, List.set_cons_succ, List.getElem_toArray, List.getElem_cons_succ, List.getElem_cons_zero])
    first | (refine wpAnyH_take (i := 9) (v := ?_) rfl (by kernel_rfl) (by kernel_rfl) (by kernel_rfl) (fun _ _ _ h => h) (Or.inl ⟨by rfl, ?_⟩) hG3 ?_; rotate_left; (focus (intro w' hSw; obtain ⟨⟨z0, z1⟩, zv⟩ := hSw; (try obtain ⟨s0, s1, s2⟩ := zv.at_ hk); (try unfold encB at s0); go_simp; (try with_reducible rfl); done)); (try simp only [Act.put, List.setIfInBounds_toArray, List.set_cons_zero, List.set_cons_succ, List.getElem_toArray, List.getElem_cons_succ, List.getElem_cons_zero])) | (refine wpAnyH_take (i := 9) (v := undef) rfl (by kernel_rfl) (by kernel_rfl) (by kernel_rfl) (fun _ _ _ h => h) (Or.inr ⟨by rfl, rfl⟩) hG3 ?_; (try simp only [Act.put, List.setIfInBounds_toArray, List.set_cons_zero, List.set_cons_succ, List.getElem_toArray, List.getElem_cons_succ, List.getElem_cons_zero]))
    refine wpAnyH_done (by kernel_rfl) (NoPanic.normal ?_) _
    (try simp only [Act.put, List.setIfInBounds_toArray, List.set_cons_zero, List.set_cons_succ, List.getElem_toArray, List.getElem_cons_succ, List.getElem_cons_zero])
    exact HKK.out _ _ _ _ _ _ _ _ _ _ hB3 hN3 (by omega) hoff
end Go.Proofs.YtkjajpfgdjfcoaaGreatDoor
namespace Go.Proofs.YtkjajpfgdjfcoaaGreatDoor
open Go.RowKit Go.Maps Go.Sort Go.Shelf
/-- x[1:] -/
theorem sl1_run (g off r c : Nat) (hc : r + 1 ≤ c) : ∃ o', (∀ w : World, (Instr.sliceAt 22 (.slice (some ⟨g, off, none⟩) (r + 1) c) (some (.int .i64 1)) none none).run Tryz.prog w = .ok (.slice (some ⟨g, o', none⟩) r (c - 1)) w) ∧ (r = 0 ∨ o' = off + 1) := by
  refine ⟨if c = 1 then off else off + 1, fun w => ?_, ?_⟩
  · by_cases h : c = 1
    · simp [go_sem, h, Tryz.underlying22]; intro hx; omega
    · simp [go_sem, h, Tryz.underlying22]; omega
  · by_cases h : c = 1
    · exact .inl (by omega)
    · exact .inr (by simp [h])
theorem wrow_next {w : World} {g o o' d : Nat} {us : List (List UInt8)} {l : List (List UInt8)} (h : WRow w g o (us ++ l)) (hd : us.length = d) (hc : l.length = 0 ∨ o' = o + d) : WRow w g o' l :=
  ⟨h.hg, fun j hj => by
    rcases hc with hc | rfl
    · omega
    · have := h.cell (d + j) (by simp; omega)
      rw [show o + d + j = o + (d + j) by omega, this]
      congr 3
      rw [List.getD_eq_getElem?_getD, List.getElem?_append_right (by omega), hd, Nat.add_sub_cancel_left, ← List.getD_eq_getElem?_getD]⟩
theorem cutSp : CutSp := fun r W h => cut1 r W h
set_option maxRecDepth 100000 in
set_option maxHeartbeats 4000000 in
theorem parse_any (s : List UInt8) (w : World) (ht : Tab10 w) (hs : s.length ≤ 8796093022000) :
    Calls Tryz.prog 12 #[.string ⟨s.toArray⟩] w (LineEnd w (lineV numO s, lineE numO s)) := by
  have hmf : ∀ (fn : Fn) (first cap : Array Value) (w : World), (Instr.makeFunc fn first cap).run Tryz.prog w = .ok (.func fn first cap) w := fun _ _ _ _ => rfl
  obtain ⟨W0, hW0⟩ : ∃ W0, w.alloc (.cells #[.int .i64 0, .int .i64 0, .string ⟨#[]⟩, .slice none 0 0] 84) = W0 := ⟨_, rfl⟩
  have hX0 : cellsAt W0 w.heap.size 84 #[.int .i64 0, .int .i64 0, .string ⟨#[]⟩, .slice none 0 0] := by rw [← hW0]; exact alloc_new _ _
  have hB0 : Below w.heap.size w W0 := by rw [← hW0]; exact balloc (Below.refl _ _) _
  have hZ0 : W0.heap.size = w.heap.size + 1 := by rw [← hW0]; simp
  have hsz : (⟨s.toArray⟩ : ByteArray).size = s.length := by simp [ByteArray.size]
  have HT := Lib.hid ht
  obtain ⟨xb, hxe⟩ : ∃ xb, w.heap.size = xb := ⟨_, rfl⟩
  have hxb : w.heap.size ≤ xb := by omega
  have hxz : xb + 1 ≤ W0.heap.size := by omega
  rw [hxe] at hX0
  have HXE := Lib.hid hxe
  have HW0 := Lib.hid hW0
  clear hxe hZ0 hW0
  by_cases hl : 120 < s.length
  · have HR := Lib.hid (line_long (num := numO) hl)
    generalize (lineV numO s, lineE numO s) = tv at *
    have z : (120 : Int) < ((⟨s.toArray⟩ : ByteArray).size : Int) := by omega
    generalize (⟨s.toArray⟩ : ByteArray) = S at *
    clear hl hsz
    go_enter Tryz.func12, Tryz.ntmps12
    go_upto_region 1 with fail
    rw [HW0.out, HXE.out]
    obtain ⟨q0, q1, q2, q3⟩ := cells4 hX0
    obtain ⟨z0, z1, z2, z3⟩ := frz4 hX0
    go_wp2_with fail
    obtain ⟨f0, f1, f2, f3⟩ := cells4 (set4 hX0 (.int .i64 0) (.int .i64 0) (.string ⟨#[]⟩) (.slice none 0 0))
    (try simp only [Exit.inBlock, Exit.then])
    show bodyPost _ _ _ _ _ _
    refine bodyPost_ret (P := Tryz.prog) (fn := Tryz.f12) (v := .tuple #[.agg #[.int .i64 0, .int .i64 0, .string ⟨#[]⟩, .slice none 0 0], .int .i64 3]) ?_ rfl ?_
    · simp [results, Tryz.results12, go_sem, f0, f1, f2, f3]
    rw [HR.out]
    exact LineEnd.bad (set4_below hB0 hxb _ _ _ _)
  · have HR := Lib.hid (line_form (num := numO) hl)
    generalize (lineV numO s, lineE numO s) = tv at *
    have z : ¬ (120 : Int) < ((⟨s.toArray⟩ : ByteArray).size : Int) := by omega
    have HWB : Hid (∀ x ∈ wordsL s, x.length ≤ 120) := fun x hx => Nat.le_trans (words_bound s x hx) (by omega)
    have HWL : Hid ((wordsL s).length ≤ 121) := show _ ≤ _ from by have := wordsL_len s; omega
    have HNE := Lib.hid (wordsL_ne s)
    have HCW := Lib.hid (fun W N h => collect_words cutSp N s hs W h)
    clear hl hsz
    generalize wordsL s = ws at *
    generalize (⟨s.toArray⟩ : ByteArray) = S at *
    go_enter Tryz.func12, Tryz.ntmps12
    go_upto_region 1 with fail
    rw [HW0.out, HXE.out]
    go_wp2_with fail
    refine (words_any _ _).mono ?_
    rintro e w1 ⟨rfl, rfl⟩
    obtain ⟨W1, hW1⟩ : ∃ W1, W0.alloc (.cells #[.string S] 9) = W1 := ⟨_, rfl⟩
    have hN1 : W1.heap[W0.heap.size]? = some (.cells #[.string S] 9 (0, 0)) := by rw [← hW1]; exact alloc_new _ _
    have hX1 : cellsAt W1 xb 84 #[.int .i64 0, .int .i64 0, .string ⟨#[]⟩, .slice none 0 0] := by rw [← hW1]; exact hX0.below (balloc (Below.refl _ _) _)
    have hB1 : Below w.heap.size w W1 := by rw [← hW1]; exact balloc hB0 _
    rw [hW1]
    clear hW1
    go_wp2_with fail
    refine (HCW.out W1 _ hN1).mono ?_
    rintro e w2 ⟨v, rfl, hrow, hb⟩
    obtain ⟨g, cap, rfl, hg1, hcap, hcap2, hWR⟩ := wrow_of_own hrow HNE.out
    have hX2 : cellsAt w2 xb 84 #[.int .i64 0, .int .i64 0, .string ⟨#[]⟩, .slice none 0 0] := (hb.block _ (by omega)).trans hX1
    have hB2 : Below w.heap.size w w2 := hB1.trans (hb.mono (by omega))
    have hN2 := hWR.hg
    clear hrow hb hX1 hB1 hN1 hX0 hB0
    go_upto_region 4 with fail
    obtain ⟨W3, hW3⟩ : ∃ W3, w2.alloc (.cells #[.slice (some ⟨g, 0, none⟩) ws.length cap] 22) = W3 := ⟨_, rfl⟩
    have hA := balloc (Below.refl w2.heap.size w2) (.cells #[.slice (some ⟨g, 0, none⟩) ws.length cap] 22)
    have hC3 := alloc_new w2 (.cells #[.slice (some ⟨g, 0, none⟩) ws.length cap] 22)
    have hX3 := hX2.below hA
    have hR3 := hWR.below hA
    have hB3 := below_trans hB2 hA
    rw [hW3] at hX3 hR3 hB3 hC3
    rw [hW3]
    have hwb0 : xb < w2.heap.size := hX2.lt
    clear hA hX2 hB2 hN2 hWR hW3
    generalize w2.heap.size = wb at *
    obtain ⟨m, hm⟩ : ∃ m, ws.length = m := ⟨_, rfl⟩
    rw [hm] at hC3
    obtain ⟨q0, q1, q2, q3⟩ := cells4 hX3
    obtain ⟨z0, z1, z2, z3⟩ := frz4 hX3
    have y0 : W3.cell? ⟨wb, 0, none⟩ = some (.slice (some ⟨g, 0, none⟩) m cap) := cellsAt.cell hC3 0
    have yz : W3.frozen? ⟨wb, 0, none⟩ = false := cellsAt.frozen hC3 0
    have hC3 : cellsAt W3 wb 22 #[.slice (some ⟨g, 0, none⟩) m cap] := hC3
    rw [hm]
    by_cases hlen : ws.length < 3
    · have HTX := HR.out.trans (formP_short hlen)
      have z5 : (m : Int) < 3 := by omega
      clear hm
      have HTX := Lib.hid HTX
      go_wp2_with fail
      obtain ⟨f0, f1, f2, f3⟩ := cells4 (set4 hX3 (.int .i64 0) (.int .i64 0) (.string ⟨#[]⟩) (.slice none 0 0))
      (try simp only [Exit.inBlock, Exit.then])
      show bodyPost _ _ _ _ _ _
      refine bodyPost_ret (P := Tryz.prog) (fn := Tryz.f12) (v := .tuple #[.agg #[.int .i64 0, .int .i64 0, .string ⟨#[]⟩, .slice none 0 0], .int .i64 6]) ?_ rfl ?_
      · simp [results, Tryz.results12, go_sem, f0, f1, f2, f3]
      rw [HTX.out]
      exact LineEnd.bad (set4_below hB3 hxb _ _ _ _)
    · obtain ⟨a, t, v, rest, rfl⟩ : ∃ a t v rest, ws = a :: t :: v :: rest := by
        match ws, hlen with
        | [], h => simp at h
        | [_], h => simp at h
        | [_, _], h => simp at h
        | a :: t :: v :: rest, _ => exact ⟨a, t, v, rest, rfl⟩
      have z5 : ¬ (m : Int) < 3 := by omega
      have HM : Hid (rest.length + 3 = m) := hm
      have m0 : (0 : Int) < (m : Int) := by omega
      have m1 : (1 : Int) < (m : Int) := by omega
      have c0 := hR3.cell 0 (by simp)
      have c1 := hR3.cell 1 (by simp)
      have c2 := hR3.cell 2 (by simp)
      simp only [Nat.zero_add, List.getD_cons_zero, List.getD_cons_succ] at c0 c1 c2
      have HR3 := Lib.hid hR3
      clear hm hlen hR3
      by_cases ha : a = wAt
      · have HA := Lib.hid ha
        have hae : (a == [97, 116]) = true := beq_iff_eq.2 ha
        clear ha
        go_wp2_with fail
        refine (verbs_any _).mono ?_
        rintro e w4 ⟨rfl, hw4⟩
        have hV4 := verbs_new W3
        have hb4 : Below W3.heap.size W3 w4 := by rw [hw4]; exact balloc (Below.refl _ _) _
        rw [← hw4] at hV4
        have HBX : Hid (BoxW w4 wb g m cap v) := ⟨by rw [hb4.cell (p := ⟨wb, 0, none⟩) hC3.lt]; exact y0, by rw [hb4.cell (p := ⟨g, 2, none⟩) HR3.out.hg]; exact c2, Nat.lt_of_lt_of_le hC3.lt hb4.size, Nat.lt_of_lt_of_le HR3.out.hg hb4.size, by omega⟩
        have HV4 := Lib.hid hV4
        have hX4 := hX3.below hb4
        have hC4 := hC3.below hb4
        have HR4 := Lib.hid (HR3.out.below hb4)
        have hB4 := below_trans hB3 hb4
        clear hV4 hw4 hX3 hC3 hB3 HR3 y0 yz c0 c1 c2 q0 q1 q2 q3 z0 z1 z2 z3
        generalize W3.heap.size = vv at *
        go_wp2_with fail
        refine (index_verbs v _ wb g m cap _ HV4.out HBX.out).mono ?_
        rintro e w5 ⟨rfl, hb5⟩
        have hX5 := hX4.below hb5
        have hC5 := hC4.below hb5
        have HR5 := Lib.hid (HR4.out.below hb5)
        have hB5 := below_trans hB4 hb5
        clear HBX HV4 hX4 hC4 hB4 HR4 hb4 hb5
        have y0 : w5.cell? ⟨wb, 0, none⟩ = some (.slice (some ⟨g, 0, none⟩) m cap) := cellsAt.cell hC5 0
        obtain ⟨q0, q1, q2, q3⟩ := cells4 hX5
        obtain ⟨z0, z1, z2, z3⟩ := frz4 hX5
        have hC5lt := hC5.lt
        obtain ⟨ix, hix⟩ : ∃ ix, idxV v = ix := ⟨_, rfl⟩
        rw [hix]
        have HIX := Lib.hid hix
        clear hix
        go_upto_region 7 with fail
        have hX6 := hX5.set 1 (.int .i64 ix)
        simp only [List.setIfInBounds_toArray, List.set_cons_zero, List.set_cons_succ] at hX6
        have hC6 := hC5.set_other (p := ⟨xb, 1, none⟩) (by show xb ≠ wb; omega) (.int .i64 ix)
        have HR6 := Lib.hid (HR5.out.set (p := ⟨xb, 1, none⟩) (by show xb ≠ g; omega) (.int .i64 ix))
        have hB6 := Below.setCell (p := ⟨xb, 1, none⟩) hB5 hxb (.int .i64 ix)
        clear hX5 hC5 hB5 HR5 y0 q0 q1 q2 q3 z0 z1 z2 z3 hC5lt
        generalize w5.setCell ⟨xb, 1, none⟩ (.int .i64 ix) = w6 at *
        have y0 : w6.cell? ⟨wb, 0, none⟩ = some (.slice (some ⟨g, 0, none⟩) m cap) := cellsAt.cell hC6 0
        have c1 := HR6.out.cell 1 (by simp)
        simp only [Nat.zero_add, List.getD_cons_zero, List.getD_cons_succ] at c1
        have HNUM := Lib.hid (number_any t (HWB.out t (by simp)) w6 (HT.out.below hB6))
        go_wp2_with fail
        refine HNUM.out.mono ?_
        rintro e w7 ⟨rfl, hb7⟩
        have hX7 := hX6.below hb7
        have hC7 := hC6.below hb7
        have HR7 := Lib.hid (HR6.out.below hb7)
        have hB7 := below_trans hB6 hb7
        clear hX6 hC6 HR6 hB6 hb7 HNUM y0 c1
        obtain ⟨q0, q1, q2, q3⟩ := cells4 hX7
        obtain ⟨z0, z1, z2, z3⟩ := frz4 hX7
        by_cases hk : verbOf v = 0
        · have hix : ix = -1 := by rw [← HIX.out]; unfold idxV; rw [if_pos hk]
          subst hix
          have HTX := Lib.hid (HR.out.trans (formP_verb hk))
          cases numO t with
          | none =>
            unfold numT
            go_wp2_with fail
            obtain ⟨f0, f1, f2, f3⟩ := cells4 (set4 hX7 (.int .i64 0) (.int .i64 0) (.string ⟨#[]⟩) (.slice none 0 0))
            (try simp only [Exit.inBlock, Exit.then])
            show bodyPost _ _ _ _ _ _
            refine bodyPost_ret (P := Tryz.prog) (fn := Tryz.f12) (v := .tuple #[.agg #[.int .i64 0, .int .i64 0, .string ⟨#[]⟩, .slice none 0 0], .int .i64 6]) ?_ rfl ?_
            · simp [results, Tryz.results12, go_sem, f0, f1, f2, f3]
            rw [HTX.out]
            exact LineEnd.bad (set4_below hB7 hxb _ _ _ _)
          | some n =>
            unfold numT
            go_wp2_with fail
            obtain ⟨f0, f1, f2, f3⟩ := cells4 (set4 hX7 (.int .i64 0) (.int .i64 0) (.string ⟨#[]⟩) (.slice none 0 0))
            (try simp only [Exit.inBlock, Exit.then])
            show bodyPost _ _ _ _ _ _
            refine bodyPost_ret (P := Tryz.prog) (fn := Tryz.f12) (v := .tuple #[.agg #[.int .i64 0, .int .i64 0, .string ⟨#[]⟩, .slice none 0 0], .int .i64 6]) ?_ rfl ?_
            · simp [results, Tryz.results12, go_sem, f0, f1, f2, f3]
            rw [HTX.out]
            exact LineEnd.bad (set4_below hB7 hxb _ _ _ _)
        · have hix : ix = ((verbOf v : Nat) : Int) := by rw [← HIX.out]; unfold idxV; rw [if_neg hk]
          have hix0 : ¬ ix < 0 := by omega
          cases hq : numO t with
          | none =>
            have HTX := Lib.hid (HR.out.trans (formP_num hq))
            clear hix
            unfold numT
            go_wp2_with fail
            obtain ⟨f0, f1, f2, f3⟩ := cells4 (set4 hX7 (.int .i64 0) (.int .i64 0) (.string ⟨#[]⟩) (.slice none 0 0))
            (try simp only [Exit.inBlock, Exit.then])
            show bodyPost _ _ _ _ _ _
            refine bodyPost_ret (P := Tryz.prog) (fn := Tryz.f12) (v := .tuple #[.agg #[.int .i64 0, .int .i64 0, .string ⟨#[]⟩, .slice none 0 0], .int .i64 6]) ?_ rfl ?_
            · simp [results, Tryz.results12, go_sem, f0, f1, f2, f3]
            rw [HTX.out]
            exact LineEnd.bad (set4_below hB7 hxb _ _ _ _)
          | some n =>
            have HK0 := Lib.hid hk
            have HQ := Lib.hid hq
            have HK17 := Lib.hid (verbOf_bd v).1
            have HTP := Lib.hid (fun h => HR.out.trans (formP_plain HA.out hq hk h (rest := rest)))
            have HTN := Lib.hid (fun (nm : List UInt8) (rs : List (List UInt8)) (he : rest = nm :: rs) h1 h2 => HR.out.trans ((by rw [he]) : formP numO (a :: t :: v :: rest) = formP numO (a :: t :: v :: nm :: rs)) |>.trans (formP_named HA.out hq hk h1 h2))
            have HT0 := Lib.hid (fun (he : rest = []) h1 => HR.out.trans ((by rw [he]) : formP numO (a :: t :: v :: rest) = formP numO [a, t, v]) |>.trans (formP_nil h1))
            have HTB := Lib.hid (fun (nm : List UInt8) (rs : List (List UInt8)) (he : rest = nm :: rs) h1 h2 => HR.out.trans ((by rw [he]) : formP numO (a :: t :: v :: rest) = formP numO (a :: t :: v :: nm :: rs)) |>.trans (formP_name h1 h2))
            subst hix
            clear hk hq HIX HA hae
            generalize verbOf v = k at *
            unfold numT
            have hm := HM.out
            subst hm
            have hgl : rest.length ≤ 121 := by have := HWL.out; show rest.length ≤ 121; simp at this; omega
            have HRB : Hid (∀ x ∈ rest, x.length ≤ 120) := fun x hx => HWB.out x (by simp [hx])
            go_upto_region 11 with fail
            have hX7' := hX7.set 0 (.int .i64 n)
            simp only [List.setIfInBounds_toArray, List.set_cons_zero, List.set_cons_succ] at hX7'
            have hC7 := hC7.set_other (p := ⟨xb, 0, none⟩) (by show xb ≠ wb; omega) (.int .i64 n)
            have HR7 := Lib.hid (HR7.out.set (p := ⟨xb, 0, none⟩) (by show xb ≠ g; omega) (.int .i64 n))
            have hB7 := Below.setCell (p := ⟨xb, 0, none⟩) hB7 hxb (.int .i64 n)
            clear q0 q1 q2 q3 z0 z1 z2 z3 hX7
            generalize w7.setCell ⟨xb, 0, none⟩ (.int .i64 n) = w7' at *
            have y0 : w7'.cell? ⟨wb, 0, none⟩ = some (.slice (some ⟨g, 0, none⟩) (rest.length + 3) cap) := cellsAt.cell hC7 0
            have q1 := (cells4 hX7').2.1
            refine parse_reg11 (by kernel_rfl) ⟨q1, y0⟩ (by have := HK17.out; omega) hcap _ _ ?_
            intro u51 u52 u53 u54 u55 u56 u57 vb off w8 hb8 hV8 hvb hoff
            have hX8 := hX7'.below hb8
            have hB8 := below_trans hB7 hb8
            have HR8 : Hid (WRow w8 g off rest) := wrow_next (us := [a, t, v]) (HR7.out.below hb8) rfl (by simpa using hoff)
            have hvx : vb ≠ xb := by have := hX7'.lt; omega
            have hvg : vb ≠ g := by have := HR7.out.hg; omega
            clear hX7' hC7 HR7 hB7 hb8 y0 q1 hoff hvb HWL HWB
            have hc3 : rest.length ≤ cap - 3 := by have h3 : rest.length + 3 ≤ cap := hcap; omega
            generalize cap - 3 = c3 at *
            (try simp only [Exit.then])
            refine ‹∀ (a : Act) (w : World), Code.wp Tryz.prog _ _ a w → _› _ _ ?_
            apply wp_seq_k
            intro _ _
            obtain ⟨v0, v1, v2⟩ := cells3 hV8
            go_cut [8] from 58 to 76 (fun v8 wx => ∃ (rs : List (List UInt8)) (nm : List UInt8) (o' c' : Nat), v8 = .slice (some ⟨g, o', none⟩) rs.length c' ∧ cellsAt wx xb 84 #[.int .i64 n, .int .i64 (k : Nat), .string ⟨nm.toArray⟩, .slice none 0 0] ∧ cellsAt wx vb 130 #[.string ⟨(wordN k).toArray⟩, .bool (namedB k), .int .i64 (manyN k : Nat)] ∧ WRow wx g o' rs ∧ Below w.heap.size w wx ∧ tv = tailV n k nm rs ∧ (∀ r ∈ rs, r.length ≤ 120) ∧ rs.length ≤ 1000)
            case first =>
              cases hnb : namedB k with
              | false =>
                rw [hnb] at v1
                have HTX := HTP.out hnb
                have hX9 := hX8
                go_wp2_with fail
                go_meet
                exact ⟨rest, [], off, c3, rfl, hX8, hV8, HR8.out, hB8, HTX, HRB.out, by omega⟩
              | true =>
                rw [hnb] at v1
                obtain he | ⟨nm, rs, he⟩ : rest = [] ∨ ∃ nm rs, rest = nm :: rs := by
                  cases rest with
                  | nil => exact .inl rfl
                  | cons nm rs => exact .inr ⟨nm, rs, rfl⟩
                · subst he
                  have HTX := Lib.hid (HT0.out rfl hnb)
                  obtain ⟨q0, q1, q2, q3⟩ := cells4 hX8
                  obtain ⟨z0, z1, z2, z3⟩ := frz4 hX8
                  clear HTP HTN HTB
                  go_wp2_with fail
                  obtain ⟨f0, f1, f2, f3⟩ := cells4 (set4 hX8 (.int .i64 0) (.int .i64 0) (.string ⟨#[]⟩) (.slice none 0 0))
                  (try simp only [Exit.inBlock, Exit.then])
                  show bodyPost _ _ _ _ _ _
                  refine bodyPost_ret (P := Tryz.prog) (fn := Tryz.f12) (v := .tuple #[.agg #[.int .i64 0, .int .i64 0, .string ⟨#[]⟩, .slice none 0 0], .int .i64 6]) ?_ rfl ?_
                  · simp [results, Tryz.results12, go_sem, f0, f1, f2, f3]
                  rw [HTX.out]
                  exact LineEnd.bad (set4_below hB8 hxb _ _ _ _)
                · subst he
                  have c0 := HR8.out.cell 0 (by simp)
                  simp only [Nat.add_zero, List.getD_cons_zero] at c0
                  have hnl := HRB.out nm (by simp)
                  have hNM := fun W => name_any ⟨nm.toArray⟩ W (by simp [ByteArray.size]; omega)
                  simp only at hNM
                  have HRS : Hid (∀ r ∈ rs, r.length ≤ 120) := fun r hr => HRB.out r (by simp [hr])
                  obtain ⟨q0, q1, q2, q3⟩ := cells4 hX8
                  obtain ⟨z0, z1, z2, z3⟩ := frz4 hX8
                  have hrs1 : rs.length + 1 ≤ c3 := hc3
                  have hrs2 : rs.length + 1 ≤ 121 := hgl
                  simp only [List.length_cons]
                  clear hgl hc3
                  cases hnm : nameB nm with
                  | false =>
                    have HTX := Lib.hid (HTB.out nm rs rfl hnb hnm)
                    rw [hnm] at hNM
                    have HNM := Lib.hid hNM
                    clear hNM HTP HTN HT0 HTB hnm
                    go_wp2_with fail
                    refine (HNM.out _).mono ?_
                    rintro e w9 ⟨rfl, hb9⟩
                    have hX9 := hX8.below hb9
                    have hB9 := below_trans hB8 hb9
                    clear q0 q1 q2 q3 z0 z1 z2 z3
                    obtain ⟨q0, q1, q2, q3⟩ := cells4 hX9
                    obtain ⟨z0, z1, z2, z3⟩ := frz4 hX9
                    go_wp2_with fail
                    obtain ⟨f0, f1, f2, f3⟩ := cells4 (set4 hX9 (.int .i64 0) (.int .i64 0) (.string ⟨#[]⟩) (.slice none 0 0))
                    (try simp only [Exit.inBlock, Exit.then])
                    show bodyPost _ _ _ _ _ _
                    refine bodyPost_ret (P := Tryz.prog) (fn := Tryz.f12) (v := .tuple #[.agg #[.int .i64 0, .int .i64 0, .string ⟨#[]⟩, .slice none 0 0], .int .i64 6]) ?_ rfl ?_
                    · simp [results, Tryz.results12, go_sem, f0, f1, f2, f3]
                    rw [HTX.out]
                    exact LineEnd.bad (set4_below hB9 hxb _ _ _ _)
                  | true =>
                    have HTX := Lib.hid (HTN.out nm rs rfl hnb hnm)
                    rw [hnm] at hNM
                    have HNM := Lib.hid hNM
                    clear hNM HTP HTN HT0 HTB hnm
                    go_wp2_with fail
                    refine (HNM.out _).mono ?_
                    rintro e w9 ⟨rfl, hb9⟩
                    have hX9 := hX8.below hb9
                    have hV9 := hV8.below hb9
                    have HR9 := Lib.hid (HR8.out.below hb9)
                    have hB9 := below_trans hB8 hb9
                    obtain ⟨o', hsl, ho⟩ := sl1_run g off rs.length c3 hrs1
                    have c0 := HR9.out.cell 0 (by simp)
                    simp only [Nat.add_zero, List.getD_cons_zero] at c0
                    have z2 := (frz4 hX9).2.2.1
                    have q2 := (cells4 hX9).2.2.1
                    clear q0 q1 q3 z0 z1 z3 hX8 hV8 HR8 hB8 hb9 HNM
                    go_upto_region 15 with fail
                    go_region
                    go_wp2_with fail
                    go_meet
                    have hX10 := hX9.set 2 (.string ⟨nm.toArray⟩)
                    simp only [List.setIfInBounds_toArray, List.set_cons_zero, List.set_cons_succ] at hX10
                    have hV10 := hV9.set_other (p := ⟨xb, 2, none⟩) (by show xb ≠ vb; omega) (.string ⟨nm.toArray⟩)
                    have hR10 := WRow.set (wrow_next (us := [nm]) (o' := o') HR9.out rfl ho) (p := ⟨xb, 2, none⟩) (by show xb ≠ g; omega) (.string ⟨nm.toArray⟩)
                    have hB10 := Below.setCell (p := ⟨xb, 2, none⟩) hB9 hxb (.string ⟨nm.toArray⟩)
                    exact ⟨rs, nm, o', c3 - 1, rfl, hX10, hV10, ⟨hR10.hg, hR10.cell⟩, hB10.drew, HTX.out, HRS.out, by omega⟩
            case rest =>
              obtain ⟨rs, nm, o', c', rfl, hX9, hV9, hR9, hB9, htv, hrs, hrl⟩ := hcut
              refine ‹∀ (a : Act) (w : World), Code.wp Tryz.prog _ _ a w → _› _ _ ?_
              rw [htv]
              exact parse_tail (by kernel_rfl) HT.out hX9 hV9 hR9 hB9 hxb (by omega) hrl hrs
      · have HTX := Lib.hid (HR.out.trans (formP_at ha))
        have hae : (a == [97, 116]) = false := beq_eq_false_iff_ne.2 ha
        clear ha
        go_wp2_with fail
        obtain ⟨f0, f1, f2, f3⟩ := cells4 (set4 hX3 (.int .i64 0) (.int .i64 0) (.string ⟨#[]⟩) (.slice none 0 0))
        (try simp only [Exit.inBlock, Exit.then])
        show bodyPost _ _ _ _ _ _
        refine bodyPost_ret (P := Tryz.prog) (fn := Tryz.f12) (v := .tuple #[.agg #[.int .i64 0, .int .i64 0, .string ⟨#[]⟩, .slice none 0 0], .int .i64 6]) ?_ rfl ?_
        · simp [results, Tryz.results12, go_sem, f0, f1, f2, f3]
        rw [HTX.out]
        exact LineEnd.bad (set4_below hB3 hxb _ _ _ _)
end Go.Proofs.YtkjajpfgdjfcoaaGreatDoor
