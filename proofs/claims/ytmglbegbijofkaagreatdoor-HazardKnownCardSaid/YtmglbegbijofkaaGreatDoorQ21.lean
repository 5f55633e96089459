import Derived.Test.YtmglbegbijofkaaGreatDoorQ19
import Derived.Test.YtmglbegbijofkaaGreatDoorQ06
import Derived.Test.YtmglbegbijofkaaGreatDoorQ00
set_option linter.unusedVariables false
set_option linter.unusedSimpArgs false
namespace Go.Proofs.YtmglbegbijofkaaGreatDoor
open Go.RowKit Go.Shelf Go.Sort

theorem Tryz.info121 : (Tryz.prog.info? 121).map (fun i => (i.zero, i.size, i.bytes)) = some (some (.agg #[.int .i64 0, .int .i64 0]), 2, 16) := by kernel_rfl
/-- the loop of Most writes two old blocks and new ones -/
def Keep5 (W5 wr : World) (a b : Nat) : Prop := W5.heap.size ≤ wr.heap.size ∧ ∀ j, j < W5.heap.size → j ≠ a → j ≠ b → wr.heap[j]? = W5.heap[j]?
theorem Keep5.set {W5 wr : World} {a b : Nat} (h : Keep5 W5 wr a b) {p : Addr} (hp : p.block = a ∨ p.block = b) (v : Value) : Keep5 W5 (wr.setCell p v) a b :=
  ⟨by simpa [World.setCell] using h.1, fun j hj h1 h2 => (Below.heap_setCell wr p v j (by rcases hp with hp | hp <;> omega)).trans (h.2 j hj h1 h2)⟩
theorem Keep5.alloc {W5 wr : World} {a b : Nat} (h : Keep5 W5 wr a b) (o : Obj) : Keep5 W5 (wr.alloc o) a b :=
  ⟨Nat.le_trans h.1 (by simp), fun j hj h1 h2 => (Below.heap_alloc wr o j (Nat.lt_of_lt_of_le hj h.1)).trans (h.2 j hj h1 h2)⟩
theorem Keep5.grown {W5 wr wr' : World} {a b : Nat} {u : Value} (h : Keep5 W5 wr a b) (hg : wr.grownBy wr' u.ownBlock) (hu : ∀ g, u.ownBlock = some g → W5.heap.size ≤ g) : Keep5 W5 wr' a b :=
  ⟨Nat.le_trans h.1 hg.size, fun j hj h1 h2 => (hg.block j (Nat.lt_of_lt_of_le hj h.1) (fun e => by have := hu j e.symm; omega)).trans (h.2 j hj h1 h2)⟩
theorem Keep5.cell {W5 wr : World} {a b : Nat} (h : Keep5 W5 wr a b) {p : Addr} {v : Value} (hc : W5.cell? p = some v) (h1 : p.block ≠ a) (h2 : p.block ≠ b) : wr.cell? p = some v :=
  (World.cell?_of_block (h.2 p.block (World.block_lt_of_cell? _ _ hc) h1 h2)).trans hc
/-- what Most leaves -/
def MostPost (w : World) (zs : List Int) (st : List (Int × Int) × Int × Int) (more : Bool) (e : Ending) (w' : World) : Prop :=
  (0 < st.2.1 ∧ more = false ∧ e = .returned (.tuple #[.agg #[.slice none 0 0, .int .i64 0, .int .i64 0], .int .i64 0, .int .i64 9]) ∧ Below w.heap.size w w') ∨
  (¬ (0 < st.2.1 ∧ more = false) ∧ ∃ v qs, e = .returned (.tuple #[.agg #[v, .int .i64 st.2.1, .int .i64 (if 0 < st.2.1 then 0 else st.2.2)], .int .i64 (ppl zs st.1), .int .i64 0]) ∧ qs.Perm st.1 ∧ qs.Pairwise (fun x y => x.1 ≤ y.1) ∧ SpansAt w' v qs ∧ Below w.heap.size w w')
def cellsL (cx cy size cols rows xl xh yl yh : Int) : List Int := rowsL (stepsLo xl cx (1000 * size)) (stepsLo yl cy (1000 * size)) cols (stepsHi xh cx (1000 * size) cols - stepsLo xl cx (1000 * size) + 1).toNat (stepsHi yh cy (1000 * size) rows - stepsLo yl cy (1000 * size) + 1).toNat
def cellsM (cx cy size cols rows xl xh yl yh : Int) : Bool := stepsMo xl xh cx (1000 * size) cols || stepsMo yl yh cy (1000 * size) rows
theorem askE_zero {cx cy size cols rows : Int} {zs : List Int} {xl xh yl yh lethal cap : Int} (h : askE cx cy size cols rows zs xl xh yl yh lethal cap = 0) :
    chkE cx cy size cols rows zs = 0 ∧ wildB xl xh yl yh = false ∧ outB lethal 0 10000 = false ∧ outB cap 1 1000000 = false := by
  unfold askE at h
  by_cases h1 : chkE cx cy size cols rows zs ≠ 0
  · rw [if_pos h1] at h; exact absurd h h1
  · rw [if_neg h1] at h
    cases h2 : wildB xl xh yl yh
    · rw [h2] at h
      cases h3 : outB lethal 0 10000 <;> cases h4 : outB cap 1 1000000 <;> simp [h3, h4] at h
      exact ⟨by simpa using h1, rfl, rfl, rfl⟩
    · rw [h2] at h; simp at h

set_option maxRecDepth 100000 in
set_option maxHeartbeats 1600000 in
theorem most_ok (cx cy size cols rows : Int) (pv : Value) (zs : List Int) (xl xh yl yh lethal cap : Int) (w : World) (hv : IntsAt w pv zs) (hn : zs.length ≤ 9223372036854775806)
    (hask : askE cx cy size cols rows zs xl xh yl yh lethal cap = 0) (S : List Int) (hS : StableC zs (cellsL cx cy size cols rows xl xh yl yh) S) (hSL : S.length = (cellsL cx cy size cols rows xl xh yl yh).length) (hL0 : 0 < S.length) (hL4 : S.length ≤ 400) (hSr : ∀ c ∈ S, 0 ≤ c ∧ c < (zs.length : Int)) :
    Calls Tryz.prog 25 #[.agg #[.int .i64 cx, .int .i64 cy, .int .i64 size, .int .i64 cols, .int .i64 rows, pv], .agg #[.int .i64 xl, .int .i64 xh, .int .i64 yl, .int .i64 yh], .agg #[.int .i64 lethal, .int .i64 cap]] w
      (MostPost w zs (gv zs cap S) (cellsM cx cy size cols rows xl xh yl yh)) := by
  have hmf : ∀ (fn : Fn) (first cap : Array Value) (w : World), (Instr.makeFunc fn first cap).run Tryz.prog w = .ok (.func fn first cap) w := fun _ _ _ _ => rfl
  obtain ⟨hk1, hk2, hk3, hk4⟩ := askE_zero hask
  obtain ⟨hm1, hm2, hm3⟩ := chkE_zero hk1
  obtain ⟨⟨u1, u2⟩, ⟨u3, u4⟩, ⟨u5, u6⟩, ⟨u7, u8⟩, u9, u10⟩ := mapB_false.1 hm1
  obtain ⟨⟨v1, v2, v3⟩, v4, v5, v6⟩ := wildB_false.1 hk2
  obtain ⟨v7, v8⟩ := outB_false.1 hk3
  obtain ⟨v9, v10⟩ := outB_false.1 hk4
  have hz : ∀ z ∈ zs, 0 ≤ z ∧ z ≤ 1000000 := fun z hz => outB_false.1 (idxP_none (by omega) hm3 z hz)
  have HA : Hid (∀ W, IntsAt W pv zs → Calls Tryz.prog 80 #[.agg #[.int .i64 cx, .int .i64 cy, .int .i64 size, .int .i64 cols, .int .i64 rows, pv], .agg #[.int .i64 xl, .int .i64 xh, .int .i64 yl, .int .i64 yh], .agg #[.int .i64 lethal, .int .i64 cap]] W fun e w' => e = .returned (.int .i64 0) ∧ Below W.heap.size W w') := show ∀ _, _ from fun W hW => by
    have := asked_any cx cy size cols rows pv zs xl xh yl yh lethal cap W hW hn
    rw [hask] at this
    exact this
  have HC : Hid (∀ W, Calls Tryz.prog 81 #[.agg #[.int .i64 cx, .int .i64 cy, .int .i64 size, .int .i64 cols, .int .i64 rows, pv], .agg #[.int .i64 xl, .int .i64 xh, .int .i64 yl, .int .i64 yh]] W (CellsPost W (cellsL cx cy size cols rows xl xh yl yh) (cellsM cx cy size cols rows xl xh yl yh))) := show ∀ _, _ from fun W => cells_any cx cy size cols rows pv xl xh yl yh W u1 u2 u3 u4 u5 u6 u7 u8 u9 u10 v1 v2 v4 v5 v3 v6
  obtain ⟨pa, pc, rfl, h0 | ⟨pb, po, rfl, hpb, hpx⟩⟩ := id hv
  · have := hSr S[0] (List.getElem_mem hL0)
    omega
  clear hpx
  have HV := Lib.hid hv
  have HS := Lib.hid hS
  have HZ := Lib.hid hz
  have HSL := Lib.hid hSL
  have HSR := Lib.hid hSr
  clear hv hS hz hSL hSr hask hk1 hk2 hk3 hk4 hm1 hm2 hm3 u1 u2 u3 u4 u5 u6 u7 u8 u9 u10 v1 v2 v3 v4 v5 v6
  generalize cellsL cx cy size cols rows xl xh yl yh = L at *
  generalize cellsM cx cy size cols rows xl xh yl yh = more at *
  go_enter Tryz.func25, Tryz.ntmps25
  go_wp2_with fail
  obtain ⟨hM0, hA0, hW0, hS0, hz0, hB0⟩ := alloc4 w #[.int .i64 cx, .int .i64 cy, .int .i64 size, .int .i64 cols, .int .i64 rows, .slice (some ⟨pb, po, none⟩) zs.length pc] #[.int .i64 xl, .int .i64 xh, .int .i64 yl, .int .i64 yh] #[.int .i64 lethal, .int .i64 cap] #[.slice none 0 0, .int .i64 0, .int .i64 0] 42 25 44 47
  generalize (((w.alloc (.cells #[.int .i64 cx, .int .i64 cy, .int .i64 size, .int .i64 cols, .int .i64 rows, .slice (some ⟨pb, po, none⟩) zs.length pc] 42)).alloc (.cells #[.int .i64 xl, .int .i64 xh, .int .i64 yl, .int .i64 yh] 25)).alloc (.cells #[.int .i64 lethal, .int .i64 cap] 44)).alloc (.cells #[.slice none 0 0, .int .i64 0, .int .i64 0] 47) = W0 at *
  have HZ0 := Lib.hid hz0
  clear hz0
  refine (HA.out W0 (HV.out.below hB0)).mono ?_
  rintro e w1 ⟨rfl, hb1⟩
  have hM1 := hM0.below hb1
  have hA1 := hA0.below hb1
  have hW1 := hW0.below hb1
  have hS1 := hS0.below hb1
  have hB1 := below_trans hB0 hb1
  have hz1 : w.heap.size + 4 ≤ w1.heap.size := by have := hb1.size; rw [HZ0.out] at this; exact this
  clear hM0 hA0 hW0 hS0 hB0 hb1
  obtain ⟨m0, m1, m2, m3, m4, m5⟩ := cells6 hM1
  obtain ⟨a0, a1, a2, a3⟩ := cells4 hA1
  have HM1 := Lib.hid hM1
  have HW1 := Lib.hid hW1
  have HS1 := Lib.hid hS1
  clear hM1 hA1 hW1 hS1
  go_wp2_with fail
  refine (HC.out w1).mono ?_
  rintro e w2 ⟨v, rfl, hown2, hb2⟩
  have hL0' : 0 < L.length := by rw [← HSL.out]; exact hL0
  obtain ⟨g, c2, rfl, hg1, hg2, hcl⟩ := ints_of_row hown2 hL0'
  have HCL := Lib.hid hcl
  have HM2 := Lib.hid (HM1.out.below hb2)
  have HW2 := Lib.hid (HW1.out.below hb2)
  have HS2 := Lib.hid (HS1.out.below hb2)
  have hB2 := below_trans hB1 hb2
  have HI2 := Lib.hid (HV.out.below hB2)
  have hz2 := hb2.size
  clear hown2 hb2 hcl m0 m1 m2 m3 m4 m5 a0 a1 a2 a3 hB1 HM1 HW1 HS1
  go_wp2_with fail
  refine (HS.out w.heap.size g c2 _ w2 (cells6 HM2.out).2.2.2.2.2 HI2.out (by omega) (fun b o m c he => by simp only [Value.slice.injEq, Option.some.injEq, Addr.mk.injEq] at he; omega) HCL.out hg2).mono ?_
  rintro e w3 ⟨rfl, hgr, hcs⟩
  have HM3 := Lib.hid (HM2.out.grown hgr (by omega))
  have HW3 := Lib.hid (HW2.out.grown hgr (by omega))
  have HS3 := Lib.hid (HS2.out.grown hgr (by omega))
  have HI3 := Lib.hid (ints_grown HI2.out hgr (by omega))
  have HCS := Lib.hid hcs
  have hB3 : Below w.heap.size w w3 := hB2.grown hgr hB2.size (fun k e => by cases e; omega)
  have hz3 := hgr.size
  clear hcs hgr HM2 HW2 HS2 HI2 HCL hB2 hL0'
  obtain ⟨l0, l1⟩ := cells2 HW3.out
  go_wp2_with fail
  refine (giver_any _ _ _).mono ?_
  rintro e w4 ⟨rfl, rfl⟩
  obtain ⟨hl5, hc5, hz5, hb5⟩ := alloc2 w3 #[.int .i64 1000000] #[.int .i64 cap] 3 3
  have HM5 := Lib.hid (HM3.out.below hb5)
  have HS5 := Lib.hid (HS3.out.below hb5)
  have HI5 := Lib.hid (HI3.out.below hb5)
  have HCS5 : Hid (∀ j, j < S.length → ((w3.alloc (.cells #[.int .i64 1000000] 3)).alloc (.cells #[.int .i64 cap] 3)).cell? ⟨g, j, none⟩ = some (intF S j)) := show ∀ _ _, _ from fun j hj => below_cell hb5 (HCS.out j hj)
  have hB5 := below_trans hB3 hb5
  have HL5 := Lib.hid hl5
  have HC5 := Lib.hid hc5
  have HZ5 := Lib.hid hz5
  clear hl5 hc5 hz5 hb5 HCS HI3 HS3 HM3 HW3 hB3 l0 l1
  generalize (w3.alloc (.cells #[.int .i64 1000000] 3)).alloc (.cells #[.int .i64 cap] 3) = W5 at *
  obtain ⟨i0, hi, hz0, hz1', hz2'⟩ := info_parts Tryz.info121
  have HOK := Lib.hid (gv_ok HZ.out v9 S HSR.out)
  have hzs : zs.length ≤ 9223372036854775806 := hn
  have hw5 : w3.heap.size + 2 = W5.heap.size := HZ5.out.symm
  go_wp2_with fail
  go_loopw [41] (fun i wr => ∃ (k : Nat) (v : Value), k ≤ S.length ∧ i = .int .i64 k ∧ Hid (cellsAt wr (w.heap.size + 1 + 1 + 1) 47 #[v, .int .i64 0, .int .i64 (gv zs cap (S.take k)).2.2]) ∧ Hid (cellsAt wr w3.heap.size 3 #[.int .i64 (gv zs cap (S.take k)).2.1]) ∧ Hid (wr.ownsRow W5.heap.size 121 2 v (gv zs cap (S.take k)).1.length (spc (gv zs cap (S.take k)).1)) ∧ Hid (Keep5 W5 wr (w.heap.size + 1 + 1 + 1) w3.heap.size) ∧ Below w.heap.size w wr) (fun i _ => S.length - (intOf i).toNat)
  case atStart => exact ⟨0, _, Nat.zero_le _, rfl, HS5.out, HL5.out, World.ownsRow_nil _ _ _ _, ⟨Nat.le_refl _, fun _ _ _ _ => rfl⟩, hB5⟩
  case round =>
    obtain ⟨k, v, hk, rfl, HSW, HLW, HOW, HKP, hBW⟩ := hrel
    have hks : W5.heap.size ≤ wr.heap.size := HKP.out.1
    by_cases hlt : k < S.length
    · have hltL : k < L.length := by rw [← HSL.out]; exact hlt
      have hok := HOK.out k hk
      have HT : Hid (gv zs cap (S.take (k + 1)) = gvStep zs cap (gv zs cap (S.take k)) S[k]) := show _ = _ from by rw [List.take_succ_eq_append_getElem hlt, gv_snoc]
      have hrow : wr.cell? ⟨g, k, none⟩ = some (.int .i64 S[k]) := by
        have h1 := HCS5.out k hlt
        simp only [intF, List.getElem?_eq_getElem hlt, Option.getD_some] at h1
        exact HKP.out.cell h1 (by show g ≠ _; omega) (by show g ≠ _; omega)
      have hSk := HSR.out S[k] (List.getElem_mem hlt)
      generalize S[k] = c at *
      generalize gv zs cap (S.take k) = st at *
      obtain ⟨ps, left, price⟩ := st
      obtain ⟨o1, o2, o3, o4, o5, o6⟩ := hok
      simp only at o1 o2 o3 o5 o6
      have HO4 := Lib.hid o4
      clear o4
      obtain ⟨s0, s1, s2⟩ := cells3 HSW.out
      have hlc : wr.cell? ⟨w3.heap.size, 0, none⟩ = some (.int .i64 left) := HLW.out.cell 0
      have hlf := HLW.out.frozen 0
      have hcc : wr.cell? ⟨w3.heap.size + 1, 0, none⟩ = some (.int .i64 cap) := HKP.out.cell (HC5.out.cell 0) (by show w3.heap.size + 1 ≠ _; omega) (by show w3.heap.size + 1 ≠ _; omega)
      go_wp2_with fail
      refine (give_any w3.heap.size (w3.heap.size + 1) left cap wr hlc hcc hlf o1 o2 v9 v10).mono ?_
      rintro e w6 ⟨rfl, rfl⟩
      have HSW6 := Lib.hid (HSW.out.set_other (p := ⟨w3.heap.size, 0, none⟩) (by show w3.heap.size ≠ _; omega) (.int .i64 (left - min left cap)))
      have hlw6 := HLW.out.set 0 (.int .i64 (left - min left cap))
      simp only [List.setIfInBounds_toArray, List.set_cons_zero] at hlw6
      have HLW6 := Lib.hid hlw6
      clear hlw6
      have HOW6 := Lib.hid (HOW.out.kept (grownBy_setCell0_a wr w3.heap.size (.int .i64 (left - min left cap))) (by
        cases hob : v.ownBlock with
        | none => exact .inl rfl
        | some g' => exact .inr (fun e => by have := (HOW.out.lt g' hob).1; have : g' = w3.heap.size := Option.some.inj e; omega)))
      have HKP6 := Lib.hid (HKP.out.set (p := ⟨w3.heap.size, 0, none⟩) (.inr rfl) (.int .i64 (left - min left cap)))
      have hBW6 : Below w.heap.size w (wr.setCell ⟨w3.heap.size, 0, none⟩ (.int .i64 (left - min left cap))) := hBW.setCell (by show w.heap.size ≤ w3.heap.size; omega) _
      clear HSW HLW HOW HKP hBW hrow s0 s1 s2 hlc hlf hcc
      have hks6 : W5.heap.size ≤ (wr.setCell ⟨w3.heap.size, 0, none⟩ (.int .i64 (left - min left cap))).heap.size := HKP6.out.1
      generalize wr.setCell ⟨w3.heap.size, 0, none⟩ (.int .i64 (left - min left cap)) = w6 at *
      by_cases hn0 : 0 < min left cap
      · have HT2 : Hid (gvStep zs cap (ps, left, price) c = (ps ++ [(c, min left cap)], left - min left cap, zs.getD c.toNat 0)) := show _ = _ from if_pos hn0
        obtain ⟨s0, s1, s2⟩ := cells3 HSW6.out
        have f0 := HSW6.out.frozen 0
        have f2 := HSW6.out.frozen 2
        go_wp2_with (at_builtin; refine wpList_append_lies _ (by rfl) _ _ _ (by rfl) W5.heap.size 121 i0 _ 2 16 Tryz.underlying45 hi hz0 hz1' hz2' rfl (by omega) v ps.length _ (by rfl) (World.ownsRow.alloc HOW6.out _) ⟨w6.heap.size, 0, none⟩ 1 1 [.int .i64 c, .int .i64 (min left cap)] (by rfl) (by rfl) (World.news_of_block (cs := #[.int .i64 c, .int .i64 (min left cap)]) (t := 121) (fr := (0, 0)) (heap_alloc_new w6 _)) (by simp [Value.oneCell']) (by omega) (by unfold maxLen; omega) (by omega) (by simp; omega) (w6.heap.size + 1) (by simp) ?_)
        intro g7 cap7 w7 hown7 hgrow hat hlt7
        have hu : ∀ g', v.ownBlock = some g' → W5.heap.size ≤ g' := fun g' hg' => (HOW6.out.lt g' hg').1
        have far : ∀ j, j < W5.heap.size → some j ≠ v.ownBlock := fun j hj e => by have := hu j e.symm; omega
        have hsw7 : cellsAt w7 (w.heap.size + 1 + 1 + 1) 47 #[v, .int .i64 0, .int .i64 price] := (hgrow.block _ (by simp; omega) (far _ (by omega))).trans ((Below.heap_alloc _ _ _ (by omega)).trans HSW6.out)
        have hlw7 : cellsAt w7 w3.heap.size 3 #[.int .i64 (left - min left cap)] := (hgrow.block _ (by simp; omega) (far _ (by omega))).trans ((Below.heap_alloc _ _ _ (by omega)).trans HLW6.out)
        have hkp7 := (HKP6.out.alloc (.cells #[.int .i64 c, .int .i64 (min left cap)] 121)).grown hgrow hu
        have hBW7 := below_grown (balloc hBW6 _) hgrow (fun g hg => by have := hu g hg; omega)
        obtain ⟨s0', s1', s2'⟩ := cells3 hsw7
        have f0' := hsw7.frozen 0
        have f2' := hsw7.frozen 2
        have m5 := hkp7.cell (cells6 HM5.out).2.2.2.2.2 (by show w.heap.size ≠ _; omega) (by show w.heap.size ≠ _; omega)
        have hzc : w7.cell? ⟨pb, po + c.toNat, none⟩ = some (.int .i64 (zs.getD c.toNat 0)) := by
          obtain ⟨a', c', hac, h0 | ⟨b', off', rfl, hb', hc'⟩⟩ := HI5.out
          · omega
          · simp only [Value.slice.injEq, Option.some.injEq, Addr.mk.injEq] at hac
            obtain ⟨⟨rfl, rfl, _⟩, _, rfl⟩ := hac
            have h1 := hc' c.toNat (by omega)
            unfold intF at h1
            rw [← List.getD_eq_getElem?_getD] at h1
            exact hkp7.cell h1 (by show pb ≠ _; omega) (by show pb ≠ _; omega)
        generalize zs.getD c.toNat 0 = z at *
        have hF1 := (hsw7.set 0 (.slice (some ⟨g7, 0, none⟩) (ps.length + 1) cap7)).set 2 (.int .i64 z)
        simp only [List.setIfInBounds_toArray, List.set_cons_zero, List.set_cons_succ] at hF1
        have HF1 := Lib.hid hF1
        have HF2 := Lib.hid ((hlw7.set_other (p := ⟨w.heap.size + 1 + 1 + 1, 0, none⟩) (by show w.heap.size + 1 + 1 + 1 ≠ _; omega) (.slice (some ⟨g7, 0, none⟩) (ps.length + 1) cap7)).set_other (p := ⟨w.heap.size + 1 + 1 + 1, 2, none⟩) (by show w.heap.size + 1 + 1 + 1 ≠ _; omega) (.int .i64 z))
        have hg7 : W5.heap.size ≤ g7 := by
          rcases hat with h | h
          · exact hu _ h
          · omega
        have neo : ∀ x : Value, ((Value.slice (some ⟨g7, 0, none⟩) (ps.length + 1) cap7).ownBlock = none ∨ (Value.slice (some ⟨g7, 0, none⟩) (ps.length + 1) cap7).ownBlock ≠ some (w.heap.size + 1 + 1 + 1)) := fun _ => .inr (fun e => by simp [Value.ownBlock] at e; omega)
        have hgs : ∀ (X : World) (o : Nat) (u : Value), X.grownBy (X.setCell ⟨w.heap.size + 1 + 1 + 1, o, none⟩ u) (some (w.heap.size + 1 + 1 + 1)) := fun X o u => ⟨rfl, rfl, rfl, by simp [World.setCell], fun j _ hj => Below.heap_setCell _ _ _ j (fun e => hj (by rw [e]))⟩
        have HF3 := Lib.hid ((hown7.kept (hgs w7 0 (.slice (some ⟨g7, 0, none⟩) (ps.length + 1) cap7)) (neo v)).kept (hgs _ 2 (.int .i64 z)) (neo v))
        have HF4 := Lib.hid ((hkp7.set (p := ⟨w.heap.size + 1 + 1 + 1, 0, none⟩) (.inl rfl) (.slice (some ⟨g7, 0, none⟩) (ps.length + 1) cap7)).set (p := ⟨w.heap.size + 1 + 1 + 1, 2, none⟩) (.inl rfl) (.int .i64 z))
        have hF5 : Below w.heap.size w ((w7.setCell ⟨w.heap.size + 1 + 1 + 1, 0, none⟩ (.slice (some ⟨g7, 0, none⟩) (ps.length + 1) cap7)).setCell ⟨w.heap.size + 1 + 1 + 1, 2, none⟩ (.int .i64 z)) := (hBW7.setCell (by show w.heap.size ≤ w.heap.size + 1 + 1 + 1; omega) _).setCell (by show w.heap.size ≤ w.heap.size + 1 + 1 + 1; omega) _
        have n1 : w.heap.size + 1 + 1 + 1 ≠ w.heap.size := by omega
        have n2 : w.heap.size + 1 + 1 + 1 ≠ pb := by omega
        have q1 := hSk.1
        have q2 := hSk.2
        clear hgrow hat hsw7 hlw7 hkp7 hBW7 hown7 hF1 far neo hgs hu s0 s1 s2 f0 f2 hSk
        go_wp2_with fail
        go_roundw
        case rel => exact ⟨k + 1, _, by omega, by go_num, by rw [HT.out, HT2.out]; exact HF1.out, by rw [HT.out, HT2.out]; exact HF2.out, by rw [HT.out, HT2.out]; simp only [List.length_append, List.length_cons, List.length_nil, spc_snoc]; exact HF3.out, HF4.out, hF5⟩
        case measure => simp [intOf]; omega
      · have HT2 : Hid (gvStep zs cap (ps, left, price) c = (ps, left - min left cap, price)) := show _ = _ from if_neg hn0
        go_wp2_with fail
        go_roundw
        case rel => exact ⟨k + 1, _, by omega, by go_num, by rw [HT.out, HT2.out]; exact HSW6.out, by rw [HT.out, HT2.out]; exact HLW6.out, by rw [HT.out, HT2.out]; exact HOW6.out, HKP6.out, hBW6⟩
        case measure => simp [intOf]; omega
    · obtain rfl : k = S.length := by omega
      have hltL : ¬ (S.length < L.length) := by rw [HSL.out]; omega
      rw [List.take_length] at HSW HLW HOW
      have hok := HOK.out S.length (Nat.le_refl _)
      rw [List.take_length] at hok
      have hne := gv_ne zs cap v9 S (fun e => by rw [e] at hL0; simp at hL0)
      generalize gv zs cap S = st at *
      obtain ⟨ps, left, price⟩ := st
      obtain ⟨o1, o2, o3, o4, o5, o6⟩ := hok
      simp only at o1 o2 o3 o4 o5 o6 hne
      have HO4 := Lib.hid o4
      have hpl : 0 < ps.length := List.length_pos_iff.2 hne
      clear o4 hne
      obtain ⟨g8, c8, rfl, hg8, hg8lt, hpc⟩ := parts_of_row HOW.out hpl
      have HPC := Lib.hid hpc
      clear hpc
      obtain ⟨s0, s1, s2⟩ := cells3 HSW.out
      have f0 := HSW.out.frozen 0
      have f1 := HSW.out.frozen 1
      have f2 := HSW.out.frozen 2
      have hlc : wr.cell? ⟨w3.heap.size, 0, none⟩ = some (.int .i64 left) := HLW.out.cell 0
      go_wp2_with fail
      refine (rest_any w3.heap.size left wr hlc).mono ?_
      rintro e w6 ⟨rfl, rfl⟩
      by_cases hleft : 0 < left
      · cases more with
        | false =>
          go_wp2_with fail
          refine bodyPost_ret (v := .tuple #[.agg #[.slice none 0 0, .int .i64 0, .int .i64 0], .int .i64 0, .int .i64 9]) (by simp [results, Tryz.results25, go_sem, s0, s1, s2]) rfl (.inl ⟨hleft, rfl, rfl, ?_⟩)
          exact ((hBW.setCell (by show w.heap.size ≤ w.heap.size + 1 + 1 + 1; omega) _).setCell (by show w.heap.size ≤ w.heap.size + 1 + 1 + 1; omega) _).setCell (by show w.heap.size ≤ w.heap.size + 1 + 1 + 1; omega) _
        | true =>
          go_wp2_with fail
          refine (rest_any w3.heap.size left wr hlc).mono ?_
          rintro e w6 ⟨rfl, rfl⟩
          go_wp2_with fail
          refine (rest_any w3.heap.size left wr hlc).mono ?_
          rintro e w6 ⟨rfl, rfl⟩
          have HF : Hid (¬ (0 < left ∧ true = false) ∧ (if 0 < left then 0 else price) = 0) := show _ ∧ _ from ⟨(fun h => by cases h.2), if_pos hleft⟩
          have hsx := (HSW.out.set 1 (.int .i64 left)).set 2 (.int .i64 0)
          simp only [List.setIfInBounds_toArray, List.set_cons_zero, List.set_cons_succ] at hsx
          have hgs : ∀ (X : World) (o : Nat) (u : Value), X.grownBy (X.setCell ⟨w.heap.size + 1 + 1 + 1, o, none⟩ u) (some (w.heap.size + 1 + 1 + 1)) := fun X o u => ⟨rfl, rfl, rfl, by simp [World.setCell], fun j _ hj => Below.heap_setCell _ _ _ j (fun e => hj (by rw [e]))⟩
          have hg9 := (hgs wr 1 (.int .i64 left)).trans (hgs _ 2 (.int .i64 0))
          have HPX : Hid (∀ i, i < ps.length * 2 → ((wr.setCell ⟨w.heap.size + 1 + 1 + 1, 1, none⟩ (.int .i64 left)).setCell ⟨w.heap.size + 1 + 1 + 1, 2, none⟩ (.int .i64 0)).cell? ⟨g8, i, none⟩ = some (spanF ps i) ∧ ((wr.setCell ⟨w.heap.size + 1 + 1 + 1, 1, none⟩ (.int .i64 left)).setCell ⟨w.heap.size + 1 + 1 + 1, 2, none⟩ (.int .i64 0)).frozen? ⟨g8, i, none⟩ = false) := show ∀ _ _, _ from fun i hi => ⟨hg9.cell (HPC.out i hi).1 (ne_some (by show g8 ≠ _; omega)), (hg9.frozen_far ⟨g8, i, none⟩ hg8lt (ne_some (by show g8 ≠ _; omega))).trans (HPC.out i hi).2⟩
          have hkx := (HKP.out.set (p := ⟨w.heap.size + 1 + 1 + 1, 1, none⟩) (.inl rfl) (.int .i64 left)).set (p := ⟨w.heap.size + 1 + 1 + 1, 2, none⟩) (.inl rfl) (.int .i64 0)
          have hbx : Below w.heap.size w ((wr.setCell ⟨w.heap.size + 1 + 1 + 1, 1, none⟩ (.int .i64 left)).setCell ⟨w.heap.size + 1 + 1 + 1, 2, none⟩ (.int .i64 0)) := (hBW.setCell (by show w.heap.size ≤ w.heap.size + 1 + 1 + 1; omega) _).setCell (by show w.heap.size ≤ w.heap.size + 1 + 1 + 1; omega) _
          have hlx : g8 < ((wr.setCell ⟨w.heap.size + 1 + 1 + 1, 1, none⟩ (.int .i64 left)).setCell ⟨w.heap.size + 1 + 1 + 1, 2, none⟩ (.int .i64 0)).heap.size := Nat.lt_of_lt_of_le hg8lt hg9.size
          have HSX := Lib.hid hsx
          have HKX := Lib.hid hkx
          clear hsx hkx hgs hg9
          go_wp2_with fail
          generalize (wr.setCell ⟨w.heap.size + 1 + 1 + 1, 1, none⟩ (.int .i64 left)).setCell ⟨w.heap.size + 1 + 1 + 1, 2, none⟩ (.int .i64 0) = X at *
          refine (sortParts_list g8 c8 ps X hlx (fun i hi => (HPX.out i hi).2) (fun i hi => (HPX.out i hi).1) (by omega)).mono ?_
          rintro e w8 ⟨rfl, hgr8, qs, hqp, hqs, hqc⟩
          have hs8 := HSX.out.grown hgr8 (by omega)
          have hm8 : cellsAt w8 w.heap.size 42 #[.int .i64 cx, .int .i64 cy, .int .i64 size, .int .i64 cols, .int .i64 rows, .slice (some ⟨pb, po, none⟩) zs.length pc] := (hgr8.block _ (Nat.lt_of_lt_of_le (by omega) HKX.out.1) (ne_some (by omega))).trans ((HKX.out.2 _ (by omega) (by omega) (by omega)).trans HM5.out)
          have hb8 : Below w.heap.size w w8 := hbx.grown hgr8 hbx.size (fun k e => by cases e; omega)
          have hql : qs.length = ps.length := hqp.length_eq
          have hsp8 : SpansAt w8 (.slice (some ⟨g8, 0, none⟩) ps.length c8) qs := whole_spans hql (Nat.lt_of_lt_of_le hlx hgr8.size) hqc
          have hin8 := HV.out.below hb8
          have HQP := Lib.hid hqp
          have HQS := Lib.hid hqs
          have hpo := partsOK_perm hqp HO4.out
          have hpeo := fun W (hW1 : IntsAt W (.slice (some ⟨pb, po, none⟩) zs.length pc) zs) (hW2 : SpansAt W (.slice (some ⟨g8, 0, none⟩) ps.length c8) qs) => people_any cx cy size cols rows (.slice (some ⟨pb, po, none⟩) zs.length pc) (.slice (some ⟨g8, 0, none⟩) ps.length c8) left 0 zs qs W hW1 hW2 HZ.out hpo (by omega)
          rw [ppl_perm zs hqp] at hpeo
          have HPE := Lib.hid hpeo
          have HQL := Lib.hid hql
          have HSP8 := Lib.hid hsp8
          have HIN8 := Lib.hid hin8
          obtain ⟨m0, m1, m2, m3, m4, m5⟩ := cells6 hm8
          obtain ⟨s0', s1', s2'⟩ := cells3 hs8
          have f0' := hs8.frozen 0
          have f1' := hs8.frozen 1
          have f2' := hs8.frozen 2
          have hs8lt := hs8.lt
          have hm8lt := hm8.lt
          clear hpeo hqp hqs hqc hql hsp8 hin8 hpo hgr8 HPX HSX HKX hbx hlx HPC HSW HKP hBW hg8lt s0 s1 s2 f0 f1 f2 hlc HLW HOW hs8 hm8
          go_wp2_with fail
          go_region_with (go_at_call 88; refine (HPE.out _ (HIN8.out.below (Below.refl _ _).drew) (HSP8.out.below (Below.refl _ _).drew)).mono ?_; rintro e w9 ⟨rfl, hb9⟩; have s0' := below_cell hb9 s0'; have s1' := below_cell hb9 s1'; have s2' := below_cell hb9 s2'; have f0' := (hb9.frozen (p := ⟨w.heap.size + 1 + 1 + 1, 0, none⟩) hs8lt).trans f0'; have f1' := (hb9.frozen (p := ⟨w.heap.size + 1 + 1 + 1, 1, none⟩) hs8lt).trans f1'; have f2' := (hb9.frozen (p := ⟨w.heap.size + 1 + 1 + 1, 2, none⟩) hs8lt).trans f2')
          all_goals
            go_wp2_with fail
            refine bodyPost_ret (v := .tuple #[.agg #[.slice (some ⟨g8, 0, none⟩) ps.length c8, .int .i64 left, .int .i64 0], .int .i64 (ppl zs ps), .int .i64 0]) (by simp [results, Tryz.results25, go_sem, s0', s1', s2']) rfl (.inr ⟨HF.out.1, .slice (some ⟨g8, 0, none⟩) ps.length c8, qs, ?_, HQP.out, HQS.out, ?_, ?_⟩)
            · show _ = Ending.returned (.tuple #[.agg #[_, .int .i64 left, .int .i64 (if 0 < left then 0 else price)], _, _])
              rw [HF.out.2]
            · exact spans_grown (HSP8.out.below (below_drew' hb9)) (set3_grown _ _ _ _ _) (by omega)
            · exact (below_trans hb8 (below_drew' hb9)).grown (set3_grown _ _ _ _ _) (by have := hb8.size; have := hb9.size; simp at this; omega) (fun k e => by cases e; omega)
      · go_wp2_with fail
        refine (rest_any w3.heap.size left wr hlc).mono ?_
        rintro e w6 ⟨rfl, rfl⟩
        go_wp2_with fail
        have HF : Hid (¬ (0 < left ∧ more = false) ∧ (if 0 < left then 0 else price) = price) := show _ ∧ _ from ⟨(fun h => by omega), if_neg (by omega)⟩
        obtain rfl : left = 0 := by omega
        have HPX := Lib.hid HPC.out
        have HSX := Lib.hid HSW.out
        have HKX := Lib.hid HKP.out
        have hbx := hBW
        have hlx := hg8lt
        generalize wr = X at *
        refine (sortParts_list g8 c8 ps X hlx (fun i hi => (HPX.out i hi).2) (fun i hi => (HPX.out i hi).1) (by omega)).mono ?_
        rintro e w8 ⟨rfl, hgr8, qs, hqp, hqs, hqc⟩
        have hs8 := HSX.out.grown hgr8 (by omega)
        have hm8 : cellsAt w8 w.heap.size 42 #[.int .i64 cx, .int .i64 cy, .int .i64 size, .int .i64 cols, .int .i64 rows, .slice (some ⟨pb, po, none⟩) zs.length pc] := (hgr8.block _ (Nat.lt_of_lt_of_le (by omega) HKX.out.1) (ne_some (by omega))).trans ((HKX.out.2 _ (by omega) (by omega) (by omega)).trans HM5.out)
        have hb8 : Below w.heap.size w w8 := hbx.grown hgr8 hbx.size (fun k e => by cases e; omega)
        have hql : qs.length = ps.length := hqp.length_eq
        have hsp8 : SpansAt w8 (.slice (some ⟨g8, 0, none⟩) ps.length c8) qs := whole_spans hql (Nat.lt_of_lt_of_le hlx hgr8.size) hqc
        have hin8 := HV.out.below hb8
        have HQP := Lib.hid hqp
        have HQS := Lib.hid hqs
        have hpo := partsOK_perm hqp HO4.out
        have hpeo := fun W (hW1 : IntsAt W (.slice (some ⟨pb, po, none⟩) zs.length pc) zs) (hW2 : SpansAt W (.slice (some ⟨g8, 0, none⟩) ps.length c8) qs) => people_any cx cy size cols rows (.slice (some ⟨pb, po, none⟩) zs.length pc) (.slice (some ⟨g8, 0, none⟩) ps.length c8) 0 price zs qs W hW1 hW2 HZ.out hpo (by omega)
        rw [ppl_perm zs hqp] at hpeo
        have HPE := Lib.hid hpeo
        have HQL := Lib.hid hql
        have HSP8 := Lib.hid hsp8
        have HIN8 := Lib.hid hin8
        obtain ⟨m0, m1, m2, m3, m4, m5⟩ := cells6 hm8
        obtain ⟨s0', s1', s2'⟩ := cells3 hs8
        have f0' := hs8.frozen 0
        have f1' := hs8.frozen 1
        have f2' := hs8.frozen 2
        have hs8lt := hs8.lt
        have hm8lt := hm8.lt
        clear hpeo hqp hqs hqc hql hsp8 hin8 hpo hgr8 HPX HSX HKX hbx hlx HPC HSW HKP hBW hg8lt s0 s1 s2 f0 f1 f2 hlc HLW HOW hs8 hm8
        go_wp2_with fail
        go_region_with (go_at_call 88; refine (HPE.out _ (HIN8.out.below (Below.refl _ _).drew) (HSP8.out.below (Below.refl _ _).drew)).mono ?_; rintro e w9 ⟨rfl, hb9⟩; have s0' := below_cell hb9 s0'; have s1' := below_cell hb9 s1'; have s2' := below_cell hb9 s2'; have f0' := (hb9.frozen (p := ⟨w.heap.size + 1 + 1 + 1, 0, none⟩) hs8lt).trans f0'; have f1' := (hb9.frozen (p := ⟨w.heap.size + 1 + 1 + 1, 1, none⟩) hs8lt).trans f1'; have f2' := (hb9.frozen (p := ⟨w.heap.size + 1 + 1 + 1, 2, none⟩) hs8lt).trans f2')
        all_goals
          go_wp2_with fail
          refine bodyPost_ret (v := .tuple #[.agg #[.slice (some ⟨g8, 0, none⟩) ps.length c8, .int .i64 0, .int .i64 price], .int .i64 (ppl zs ps), .int .i64 0]) (by simp [results, Tryz.results25, go_sem, s0', s1', s2']) rfl (.inr ⟨HF.out.1, .slice (some ⟨g8, 0, none⟩) ps.length c8, qs, ?_, HQP.out, HQS.out, ?_, ?_⟩)
          · show _ = Ending.returned (.tuple #[.agg #[_, .int .i64 0, .int .i64 (if 0 < 0 then 0 else price)], _, _])
            rw [HF.out.2]
          · exact spans_grown (HSP8.out.below (below_drew' hb9)) (set3_grown _ _ _ _ _) (by omega)
          · exact (below_trans hb8 (below_drew' hb9)).grown (set3_grown _ _ _ _ _) (by have := hb8.size; have := hb9.size; simp at this; omega) (fun k e => by cases e; omega)
end Go.Proofs.YtmglbegbijofkaaGreatDoor
