import Derived.Test.YtmglbegbijofkaaGreatDoorWS
import Derived.Test.YtmglbegbijofkaaGreatDoorW21
import Derived.Test.YtmglbegbijofkaaGreatDoorW34
import Derived.Shelf.SlSortCmp.NoneTotal
import Derived.Test.YtmglbegbijofkaaGreatDoorPB
set_option linter.unusedVariables false
set_option linter.unusedSimpArgs false
namespace Go.Proofs.YtmglbegbijofkaaGreatDoor
open Go.RowKit Go.Shelf Go.Sort
theorem sortParts_none (p : Option Addr) (cap : Nat) (fv : Value) (w : World) : Calls Tryz.prog 86 #[.slice p 0 cap, fv] w fun e w' => e = .returned (.tuple #[]) ∧ w = w' := (AnyF.slices_SortFunc_none Tryz.sortParts p cap fv w).mono fun _ _ ⟨h1, h2⟩ => ⟨h1, h2.symm⟩
theorem insertInts_none (p : Option Addr) (cap : Nat) (fv : Value) (w : World) : Calls Tryz.prog 178 #[.slice p 0 cap, .int .i64 0, .int .i64 0, fv] w fun e w' => e = .returned (.tuple #[]) ∧ w = w' := (AnyF.insertionSortCmpFunc_none (P := Tryz.prog) (ρ := Tryz.insertInts_ren) { Tryz.insertInts with } p cap fv w).mono fun _ _ ⟨h1, h2⟩ => ⟨h1, h2.symm⟩
set_option maxRecDepth 100000 in
set_option maxHeartbeats 800000 in
theorem stable_none (p : Option Addr) (cap : Nat) (fv : Value) (w : World) : Calls Tryz.prog 143 #[.slice p 0 cap, .int .i64 0, fv] w fun e w' => e = .returned (.tuple #[]) ∧ w = w' := by
  have HC := Lib.hid (fun W => insertInts_none p cap fv W)
  go_enter Tryz.func143, Tryz.ntmps143
  go_wp2_with fail
  refine wp_loop_rounds 1 ?_
  rw [rounds_succ]
  go_wp2_with fail
  refine (HC.out _).mono ?_
  rintro e w1 ⟨rfl, rfl⟩
  go_wp2_with fail
  refine wp_loop_rounds 1 ?_
  rw [rounds_succ]
  go_wp2_with fail
  go_end0
  exact ⟨rfl, rfl⟩
set_option maxRecDepth 100000 in
set_option maxHeartbeats 800000 in
theorem sortStable_none (p : Option Addr) (cap : Nat) (fv : Value) (w : World) : Calls Tryz.prog 82 #[.slice p 0 cap, fv] w fun e w' => e = .returned (.tuple #[]) ∧ w = w' := by
  have HC := Lib.hid (fun W => stable_none p cap fv W)
  go_enter Tryz.func82, Tryz.ntmps82
  go_wp2_with fail
  refine (HC.out _).mono ?_
  rintro e w1 ⟨rfl, rfl⟩
  go_wp2_with fail
  go_end0
  exact ⟨rfl, rfl⟩
/-- where no cell is met -/
theorem row_nil {w : World} {B : Nat} {v : Value} (h : w.ownsRow B 3 1 v ([] : List Int).length (([] : List Int).map (Value.int .i64))) : ∃ a c, v = .slice a 0 c := by
  obtain ⟨_, ⟨rfl, _⟩ | ⟨g, cap, cur, rfl, _⟩⟩ := h
  · exact ⟨_, _, rfl⟩
  · exact ⟨_, _, rfl⟩
set_option maxRecDepth 100000 in
set_option maxHeartbeats 1600000 in
theorem most_none (cx cy size cols rows : Int) (pv : Value) (zs : List Int) (xl xh yl yh lethal cap : Int) (w : World) (hv : IntsAt w pv zs) (hn : zs.length ≤ 9223372036854775806)
    (hask : askE cx cy size cols rows zs xl xh yl yh lethal cap = 0) (hL : cellsL cx cy size cols rows xl xh yl yh = []) :
    Calls Tryz.prog 25 #[.agg #[.int .i64 cx, .int .i64 cy, .int .i64 size, .int .i64 cols, .int .i64 rows, pv], .agg #[.int .i64 xl, .int .i64 xh, .int .i64 yl, .int .i64 yh], .agg #[.int .i64 lethal, .int .i64 cap]] w
      (MostPost w zs (gv zs cap []) (cellsM cx cy size cols rows xl xh yl yh)) := by
  have hmf : ∀ (fn : Fn) (first cap : Array Value) (w : World), (Instr.makeFunc fn first cap).run Tryz.prog w = .ok (.func fn first cap) w := fun _ _ _ _ => rfl
  obtain ⟨hk1, hk2, hk3, hk4⟩ := askE_zero hask
  obtain ⟨hm1, hm2, hm3⟩ := chkE_zero hk1
  obtain ⟨⟨u1, u2⟩, ⟨u3, u4⟩, ⟨u5, u6⟩, ⟨u7, u8⟩, u9, u10⟩ := mapB_false.1 hm1
  obtain ⟨⟨v1, v2, v3⟩, v4, v5, v6⟩ := wildB_false.1 hk2
  have hz : ∀ z ∈ zs, 0 ≤ z ∧ z ≤ 1000000 := fun z hz => outB_false.1 (idxP_none (by omega) hm3 z hz)
  have HA : Hid (∀ W, IntsAt W pv zs → Calls Tryz.prog 80 #[.agg #[.int .i64 cx, .int .i64 cy, .int .i64 size, .int .i64 cols, .int .i64 rows, pv], .agg #[.int .i64 xl, .int .i64 xh, .int .i64 yl, .int .i64 yh], .agg #[.int .i64 lethal, .int .i64 cap]] W fun e w' => e = .returned (.int .i64 0) ∧ Below W.heap.size W w') := show ∀ _, _ from fun W hW => by
    have := asked_any cx cy size cols rows pv zs xl xh yl yh lethal cap W hW hn
    rw [hask] at this
    exact this
  have HC : Hid (∀ W, Calls Tryz.prog 81 #[.agg #[.int .i64 cx, .int .i64 cy, .int .i64 size, .int .i64 cols, .int .i64 rows, pv], .agg #[.int .i64 xl, .int .i64 xh, .int .i64 yl, .int .i64 yh]] W (CellsPost W [] (cellsM cx cy size cols rows xl xh yl yh))) := show ∀ _, _ from fun W => by
    have := cells_any cx cy size cols rows pv xl xh yl yh W u1 u2 u3 u4 u5 u6 u7 u8 u9 u10 v1 v2 v4 v5 v3 v6
    unfold cellsL at hL
    rw [hL] at this
    exact this
  have HPE : Hid (∀ W out price, IntsAt W pv zs → Calls Tryz.prog 88 #[.agg #[.int .i64 cx, .int .i64 cy, .int .i64 size, .int .i64 cols, .int .i64 rows, pv], .agg #[.slice none 0 0, .int .i64 out, .int .i64 price]] W fun e w' => e = .returned (.int .i64 0) ∧ Below W.heap.size W w') := show ∀ _ _ _, _ from fun W out price hW =>
    people_any cx cy size cols rows pv (.slice none 0 0) out price zs [] W hW ⟨none, 0, rfl, .inl rfl⟩ hz (fun p hp => by simp at hp) (by simp)
  have HG : Hid (gv zs cap [] = ([], 1000000, 0)) := show _ = _ from rfl
  obtain ⟨pa, pc, rfl, hx⟩ := id hv
  clear hx
  have HV := Lib.hid hv
  clear hv hz hask hk1 hk2 hk3 hk4 hm1 hm2 hm3 u1 u2 u3 u4 u5 u6 u7 u8 u9 u10 v1 v2 v3 v4 v5 v6 hL
  generalize cellsM cx cy size cols rows xl xh yl yh = more at *
  go_enter Tryz.func25, Tryz.ntmps25
  go_wp2_with fail
  obtain ⟨hM0, hA0, hW0, hS0, hz0, hB0⟩ := alloc4 w #[.int .i64 cx, .int .i64 cy, .int .i64 size, .int .i64 cols, .int .i64 rows, .slice pa zs.length pc] #[.int .i64 xl, .int .i64 xh, .int .i64 yl, .int .i64 yh] #[.int .i64 lethal, .int .i64 cap] #[.slice none 0 0, .int .i64 0, .int .i64 0] 42 25 44 47
  generalize (((w.alloc (.cells #[.int .i64 cx, .int .i64 cy, .int .i64 size, .int .i64 cols, .int .i64 rows, .slice pa zs.length pc] 42)).alloc (.cells #[.int .i64 xl, .int .i64 xh, .int .i64 yl, .int .i64 yh] 25)).alloc (.cells #[.int .i64 lethal, .int .i64 cap] 44)).alloc (.cells #[.slice none 0 0, .int .i64 0, .int .i64 0] 47) = W0 at *
  have HZ0 := Lib.hid hz0
  clear hz0
  refine (HA.out W0 (HV.out.below hB0)).mono ?_
  rintro e w1 ⟨rfl, hb1⟩
  have hM1 := hM0.below hb1
  have hA1 := hA0.below hb1
  have hW1 := hW0.below hb1
  have hS1 := hS0.below hb1
  have hB1 := below_trans hB0 hb1
  have hz1 : w.heap.size + 4 ≤ w1.heap.size := by have := hb1.size; rw [HZ0.out] at this; exact this
  clear hM0 hA0 hW0 hS0 hB0 hb1
  obtain ⟨m0, m1, m2, m3, m4, m5⟩ := cells6 hM1
  obtain ⟨a0, a1, a2, a3⟩ := cells4 hA1
  have HM1 := Lib.hid hM1
  have HW1 := Lib.hid hW1
  have HS1 := Lib.hid hS1
  clear hM1 hA1 hW1 hS1
  go_wp2_with fail
  refine (HC.out w1).mono ?_
  rintro e w2 ⟨v, rfl, hown2, hb2⟩
  obtain ⟨a2', c2, rfl⟩ := row_nil hown2
  have HM2 := Lib.hid (HM1.out.below hb2)
  have HW2 := Lib.hid (HW1.out.below hb2)
  have HS2 := Lib.hid (HS1.out.below hb2)
  have hB2 := below_trans hB1 hb2
  have HI2 := Lib.hid (HV.out.below hB2)
  have hz2 := hb2.size
  clear hown2 hb2 m0 m1 m2 m3 m4 m5 a0 a1 a2 a3 hB1 HM1 HW1 HS1
  go_wp2_with fail
  refine (sortStable_none a2' c2 _ w2).mono ?_
  rintro e w3 ⟨rfl, rfl⟩
  obtain ⟨l0, l1⟩ := cells2 HW2.out
  go_wp2_with fail
  refine (giver_any _ _ _).mono ?_
  rintro e w4 ⟨rfl, rfl⟩
  obtain ⟨hl5, hc5, hz5, hb5⟩ := alloc2 w2 #[.int .i64 1000000] #[.int .i64 cap] 3 3
  have HM5 := Lib.hid (HM2.out.below hb5)
  have HS5 := Lib.hid (HS2.out.below hb5)
  have HI5 := Lib.hid (HI2.out.below hb5)
  have hB5 := below_trans hB2 hb5
  have hlc : ((w2.alloc (.cells #[.int .i64 1000000] 3)).alloc (.cells #[.int .i64 cap] 3)).cell? ⟨w2.heap.size, 0, none⟩ = some (.int .i64 1000000) := hl5.cell 0
  clear hl5 hc5 hz5 hb5 HI2 HS2 HM2 HW2 hB2 l0 l1
  generalize (w2.alloc (.cells #[.int .i64 1000000] 3)).alloc (.cells #[.int .i64 cap] 3) = W5 at *
  obtain ⟨s0, s1, s2⟩ := cells3 HS5.out
  have f0 := HS5.out.frozen 0
  have f1 := HS5.out.frozen 1
  have f2 := HS5.out.frozen 2
  go_wp2_with fail
  refine wp_loop_rounds 1 ?_
  rw [rounds_succ]
  go_wp2_with fail
  refine (rest_any w2.heap.size 1000000 W5 hlc).mono ?_
  rintro e w6 ⟨rfl, rfl⟩
  cases more with
  | false =>
    go_wp2_with fail
    refine bodyPost_ret (v := .tuple #[.agg #[.slice none 0 0, .int .i64 0, .int .i64 0], .int .i64 0, .int .i64 9]) (by simp [results, Tryz.results25, go_sem, s0, s1, s2]) rfl (.inl ⟨by rw [HG.out]; simp, rfl, rfl, ?_⟩)
    exact ((hB5.setCell (by show w.heap.size ≤ w.heap.size + 1 + 1 + 1; omega) _).setCell (by show w.heap.size ≤ w.heap.size + 1 + 1 + 1; omega) _).setCell (by show w.heap.size ≤ w.heap.size + 1 + 1 + 1; omega) _
  | true =>
    go_wp2_with fail
    refine (rest_any w2.heap.size 1000000 W5 hlc).mono ?_
    rintro e w6 ⟨rfl, rfl⟩
    go_wp2_with fail
    refine (rest_any w2.heap.size 1000000 W5 hlc).mono ?_
    rintro e w6 ⟨rfl, rfl⟩
    have hsx := (HS5.out.set 1 (.int .i64 1000000)).set 2 (.int .i64 0)
    simp only [List.setIfInBounds_toArray, List.set_cons_zero, List.set_cons_succ] at hsx
    have hmx := (HM5.out.set_other (p := ⟨w.heap.size + 1 + 1 + 1, 1, none⟩) (by show w.heap.size + 1 + 1 + 1 ≠ _; omega) (.int .i64 1000000)).set_other (p := ⟨w.heap.size + 1 + 1 + 1, 2, none⟩) (by show w.heap.size + 1 + 1 + 1 ≠ _; omega) (.int .i64 0)
    have hbx : Below w.heap.size w ((W5.setCell ⟨w.heap.size + 1 + 1 + 1, 1, none⟩ (.int .i64 1000000)).setCell ⟨w.heap.size + 1 + 1 + 1, 2, none⟩ (.int .i64 0)) := (hB5.setCell (by show w.heap.size ≤ w.heap.size + 1 + 1 + 1; omega) _).setCell (by show w.heap.size ≤ w.heap.size + 1 + 1 + 1; omega) _
    have HSX := Lib.hid hsx
    have HMX := Lib.hid hmx
    clear hsx hmx
    go_wp2_with fail
    generalize (W5.setCell ⟨w.heap.size + 1 + 1 + 1, 1, none⟩ (.int .i64 1000000)).setCell ⟨w.heap.size + 1 + 1 + 1, 2, none⟩ (.int .i64 0) = X at *
    clear s0 s1 s2 f0 f1 f2 hlc HM5 HS5
    refine (sortParts_none none 0 _ X).mono ?_
    rintro e w7 ⟨rfl, rfl⟩
    obtain ⟨m0, m1, m2, m3, m4, m5⟩ := cells6 HMX.out
    obtain ⟨s0', s1', s2'⟩ := cells3 HSX.out
    have f0' := HSX.out.frozen 0
    have f1' := HSX.out.frozen 1
    have f2' := HSX.out.frozen 2
    have hslt := HSX.out.lt
    have HINX := Lib.hid (HV.out.below hbx)
    go_wp2_with fail
    go_region_with (go_at_call 88; refine (HPE.out _ _ _ (HINX.out.below (Below.refl _ _).drew)).mono ?_; rintro e w9 ⟨rfl, hb9⟩; have s0' := below_cell hb9 s0'; have s1' := below_cell hb9 s1'; have s2' := below_cell hb9 s2'; have f0' := (hb9.frozen (p := ⟨w.heap.size + 1 + 1 + 1, 0, none⟩) hslt).trans f0'; have f1' := (hb9.frozen (p := ⟨w.heap.size + 1 + 1 + 1, 1, none⟩) hslt).trans f1'; have f2' := (hb9.frozen (p := ⟨w.heap.size + 1 + 1 + 1, 2, none⟩) hslt).trans f2')
    all_goals
      go_wp2_with fail
      refine bodyPost_ret (v := .tuple #[.agg #[.slice none 0 0, .int .i64 1000000, .int .i64 0], .int .i64 0, .int .i64 0]) (by simp [results, Tryz.results25, go_sem, s0', s1', s2']) rfl (.inr ⟨by rw [HG.out]; simp, .slice none 0 0, [], ?_, ?_, List.Pairwise.nil, ⟨none, 0, rfl, .inl rfl⟩, ?_⟩)
      · rw [HG.out]; rfl
      · rw [HG.out]
      · exact (below_trans hbx (below_drew' hb9)).grown (set3_grown _ _ _ _ _) (by have := hbx.size; have := hb9.size; simp at this; omega) (fun k e => by cases e; omega)
set_option maxRecDepth 100000 in
set_option maxHeartbeats 800000 in
theorem most_bad (cx cy size cols rows : Int) (pv : Value) (zs : List Int) (xl xh yl yh lethal cap : Int) (w : World) (hv : IntsAt w pv zs) (hn : zs.length ≤ 9223372036854775806)
    (hask : ¬ askE cx cy size cols rows zs xl xh yl yh lethal cap = 0) :
    Calls Tryz.prog 25 #[.agg #[.int .i64 cx, .int .i64 cy, .int .i64 size, .int .i64 cols, .int .i64 rows, pv], .agg #[.int .i64 xl, .int .i64 xh, .int .i64 yl, .int .i64 yh], .agg #[.int .i64 lethal, .int .i64 cap]] w fun e w' =>
      e = .returned (.tuple #[.agg #[.slice none 0 0, .int .i64 0, .int .i64 0], .int .i64 0, .int .i64 (askE cx cy size cols rows zs xl xh yl yh lethal cap)]) ∧ Below w.heap.size w w' := by
  have hmf : ∀ (fn : Fn) (first cap : Array Value) (w : World), (Instr.makeFunc fn first cap).run Tryz.prog w = .ok (.func fn first cap) w := fun _ _ _ _ => rfl
  have HA := Lib.hid (fun W (hW : IntsAt W pv zs) => asked_any cx cy size cols rows pv zs xl xh yl yh lethal cap W hW hn)
  obtain ⟨pa, pc, rfl, hx⟩ := id hv
  clear hx
  have HV := Lib.hid hv
  have hak : (askE cx cy size cols rows zs xl xh yl yh lethal cap != 0) = true := by simpa using hask
  clear hv hask
  generalize askE cx cy size cols rows zs xl xh yl yh lethal cap = ak at *
  go_enter Tryz.func25, Tryz.ntmps25
  go_wp2_with fail
  obtain ⟨hM0, hA0, hW0, hS0, hz0, hB0⟩ := alloc4 w #[.int .i64 cx, .int .i64 cy, .int .i64 size, .int .i64 cols, .int .i64 rows, .slice pa zs.length pc] #[.int .i64 xl, .int .i64 xh, .int .i64 yl, .int .i64 yh] #[.int .i64 lethal, .int .i64 cap] #[.slice none 0 0, .int .i64 0, .int .i64 0] 42 25 44 47
  generalize (((w.alloc (.cells #[.int .i64 cx, .int .i64 cy, .int .i64 size, .int .i64 cols, .int .i64 rows, .slice pa zs.length pc] 42)).alloc (.cells #[.int .i64 xl, .int .i64 xh, .int .i64 yl, .int .i64 yh] 25)).alloc (.cells #[.int .i64 lethal, .int .i64 cap] 44)).alloc (.cells #[.slice none 0 0, .int .i64 0, .int .i64 0] 47) = W0 at *
  have HZ0 := Lib.hid hz0
  clear hz0
  refine (HA.out W0 (HV.out.below hB0)).mono ?_
  rintro e w1 ⟨rfl, hb1⟩
  have hM1 := hM0.below hb1
  have hA1 := hA0.below hb1
  have hW1 := hW0.below hb1
  have hS1 := hS0.below hb1
  have hB1 := below_trans hB0 hb1
  have hz1 : w.heap.size + 4 ≤ w1.heap.size := by have := hb1.size; rw [HZ0.out] at this; exact this
  clear hM0 hA0 hW0 hS0 hB0 hb1
  obtain ⟨s0, s1, s2⟩ := cells3 hS1
  have f0 := hS1.frozen 0
  have f1 := hS1.frozen 1
  have f2 := hS1.frozen 2
  go_wp2_with fail
  refine bodyPost_ret (v := .tuple #[.agg #[.slice none 0 0, .int .i64 0, .int .i64 0], .int .i64 0, .int .i64 ak]) (by simp [results, Tryz.results25, go_sem, s0, s1, s2]) rfl ⟨rfl, ?_⟩
  exact ((hB1.setCell (by show w.heap.size ≤ w.heap.size + 1 + 1 + 1; omega) _).setCell (by show w.heap.size ≤ w.heap.size + 1 + 1 + 1; omega) _).setCell (by show w.heap.size ≤ w.heap.size + 1 + 1 + 1; omega) _
end Go.Proofs.YtmglbegbijofkaaGreatDoor
namespace Go.Proofs.YtmglbegbijofkaaGreatDoor
open Go.RowKit Go.Shelf Go.Sort
def ordS (zs L : List Int) : List Int := if h : 0 < zs.length then stO zs h L else []
theorem cellsL_fl {cx cy size cols rows : Int} {zs : List Int} {xl xh yl yh lethal cap : Int} (hask : askE cx cy size cols rows zs xl xh yl yh lethal cap = 0) : cellsL cx cy size cols rows xl xh yl yh = flL cx cy (1000 * size) cols xl xh yl yh zs.length := by
  obtain ⟨hk1, _⟩ := askE_zero hask
  obtain ⟨hm1, hzl, _⟩ := chkE_zero hk1
  obtain ⟨⟨u1, u2⟩, ⟨u3, u4⟩, ⟨u5, u6⟩, ⟨u7, u8⟩, u9, u10⟩ := mapB_false.1 hm1
  exact (flL_rows u5 u7 u9 hzl).symm
theorem flL_mem {cx cy s cols xl xh yl yh : Int} {k : Nat} {x : Int} : x ∈ flL cx cy s cols xl xh yl yh k ↔ 0 ≤ x ∧ x < k ∧ meetsB cx cy s xl xh yl yh (x / cols) (x % cols) = true := by
  unfold flL
  simp only [List.mem_map, List.mem_filter, List.mem_range]
  constructor
  · rintro ⟨i, ⟨h1, h2⟩, rfl⟩; exact ⟨by omega, by omega, h2⟩
  · rintro ⟨h1, h2, h3⟩; exact ⟨x.toNat, ⟨by omega, by rw [show ((x.toNat : Nat) : Int) = x by omega]; exact h3⟩, by omega⟩
theorem flL_asc (cx cy s cols xl xh yl yh : Int) (k : Nat) : (flL cx cy s cols xl xh yl yh k).Pairwise (· < ·) := by
  unfold flL
  rw [List.pairwise_map]
  exact (List.Pairwise.filter _ List.pairwise_lt_range).imp (fun h => by omega)
/-- what is known of the cells of an area and of the order that Most gives them -/
structure CellsOK (zs L : List Int) : Prop where
  n0 : 0 < zs.length
  n4 : zs.length ≤ 400
  z : ∀ z ∈ zs, 0 ≤ z ∧ z ≤ 1000000
  r : ∀ x ∈ L, 0 ≤ x ∧ x < (zs.length : Int)
  asc : L.Pairwise (· < ·)
  len : L.length ≤ 400
  perm : (ordS zs L).Perm L
  ord : (ordS zs L).Pairwise (ltS zs)
theorem CellsOK.desc {zs L : List Int} (h : CellsOK zs L) : (ordS zs L).Pairwise fun a b => zc zs b ≤ zc zs a := h.ord.imp ltS_le
theorem CellsOK.nodup {zs L : List Int} (h : CellsOK zs L) : (ordS zs L).Nodup := ltS_nodup h.ord
theorem cells_ok {cx cy size cols rows : Int} {zs : List Int} {xl xh yl yh lethal cap : Int} (hask : askE cx cy size cols rows zs xl xh yl yh lethal cap = 0) : CellsOK zs (cellsL cx cy size cols rows xl xh yl yh) := by
  rw [cellsL_fl hask]
  obtain ⟨hk1, _⟩ := askE_zero hask
  obtain ⟨hm1, hzl, hix⟩ := chkE_zero hk1
  obtain ⟨⟨u1, u2⟩, ⟨u3, u4⟩, ⟨u5, u6⟩, ⟨u7, u8⟩, u9, u10⟩ := mapB_false.1 hm1
  have p1 : 1 ≤ cols * rows := Int.le_trans (by omega) (Int.mul_le_mul (a := 1) (b := 1) u7 u9 (by omega) (by omega))
  have p2 : cols * rows ≤ 400 := Int.le_trans (Int.mul_le_mul (c := 20) (d := 20) (by omega) (by omega) (by omega) (by omega)) (by omega)
  have n0 : 0 < zs.length := by omega
  have n4 : zs.length ≤ 400 := by omega
  have hr : ∀ x ∈ flL cx cy (1000 * size) cols xl xh yl yh zs.length, 0 ≤ x ∧ x < (zs.length : Int) := fun x hx => ⟨(flL_mem.1 hx).1, (flL_mem.1 hx).2.1⟩
  have ha := flL_asc cx cy (1000 * size) cols xl xh yl yh zs.length
  have e : ordS zs (flL cx cy (1000 * size) cols xl xh yl yh zs.length) = stO zs n0 _ := dif_pos n0
  refine ⟨n0, n4, fun z hz => outB_false.1 (idxP_none (by omega) hix z hz), hr, ha, Nat.le_trans (flL_len _ _ _ _ _ _ _ _ _) n4, ?_, ?_⟩
  · rw [e]; exact stO_perm zs n0 _ hr
  · rw [e]; exact stO_sorted zs n0 _ hr ha
def mostE (zs : List Int) (ask cap : Int) (L : List Int) (more : Bool) : Int := if ask = 0 then (if 0 < (gv zs cap (ordS zs L)).2.1 ∧ more = false then 9 else 0) else ask
def mostN (zs : List Int) (ask cap : Int) (L : List Int) (more : Bool) : Int := if mostE zs ask cap L more = 0 then ppl zs (gv zs cap (ordS zs L)).1 else 0
def mostQ (zs : List Int) (ask cap : Int) (L : List Int) (more : Bool) : List (Int × Int) := if mostE zs ask cap L more = 0 then partsOf (givL zs.length (gv zs cap (ordS zs L)).1) zs.length else []
def mostO (zs : List Int) (ask cap : Int) (L : List Int) (more : Bool) : Int := if mostE zs ask cap L more = 0 then (gv zs cap (ordS zs L)).2.1 else 0
def mostP (zs : List Int) (ask cap : Int) (L : List Int) (more : Bool) : Int := if mostE zs ask cap L more = 0 then gvPrice (gv zs cap (ordS zs L)) else 0
def MostSpr (w : World) (qs : List (Int × Int)) (o p n k : Int) (e : Ending) (w' : World) : Prop :=
  ∃ v, e = .returned (.tuple #[.agg #[v, .int .i64 o, .int .i64 p], .int .i64 n, .int .i64 k]) ∧ SpansAt w' v qs ∧ Below w.heap.size w w'
theorem mostE_zero {zs : List Int} {ask cap : Int} {L : List Int} {more : Bool} : mostE zs ask cap L more = 0 ↔ ask = 0 ∧ ¬ (0 < (gv zs cap (ordS zs L)).2.1 ∧ more = false) := by
  unfold mostE
  by_cases h : ask = 0
  · rw [if_pos h]
    by_cases h2 : 0 < (gv zs cap (ordS zs L)).2.1 ∧ more = false
    · rw [if_pos h2]; simp [h2]
    · rw [if_neg h2]; simp [h, h2]
  · rw [if_neg h]; simp [h]
theorem mostPost_spr {zs : List Int} {cap : Int} {L : List Int} {more : Bool} {w w' : World} {e : Ending} (hc : CellsOK zs L) (h1 : 1 ≤ cap) (h : MostPost w zs (gv zs cap (ordS zs L)) more e w') :
    MostSpr w (mostQ zs 0 cap L more) (mostO zs 0 cap L more) (mostP zs 0 cap L more) (mostN zs 0 cap L more) (mostE zs 0 cap L more) e w' := by
  rcases h with ⟨h2, h3, h4, h5⟩ | ⟨h2, v, qs, h3, h4, h5, h6, h7⟩
  · have he : mostE zs 0 cap L more = 9 := by unfold mostE; rw [if_pos rfl, if_pos ⟨h2, h3⟩]
    refine ⟨.slice none 0 0, ?_, ?_, h5⟩
    · unfold mostN mostO mostP; rw [he, h4]; simp
    · unfold mostQ; rw [he]; exact ⟨_, _, rfl, .inl rfl⟩
  · have he : mostE zs 0 cap L more = 0 := mostE_zero.2 ⟨rfl, h2⟩
    have hf := gv_feas h1 _ hc.desc hc.nodup
    have hi := gv_inv h1 _ hc.desc
    have hq : mostQ zs 0 cap L more = qs := by
      unfold mostQ
      rw [if_pos he]
      exact parts_eq hf.nodup (fun p hp => by
        have hm := hc.perm.mem_iff.1 (hf.sub p.1 (List.mem_map_of_mem hp))
        exact ⟨(hc.r _ hm).1, (hc.r _ hm).2, (hi.part p hp).1⟩) h4 h5
    refine ⟨v, ?_, by rw [hq]; exact h6, h7⟩
    unfold mostN mostO mostP gvPrice
    rw [he, h3]
    simp
theorem most_any (cx cy size cols rows : Int) (pv : Value) (zs : List Int) (xl xh yl yh lethal cap : Int) (w : World) (hv : IntsAt w pv zs) (hn : zs.length ≤ 9223372036854775806) :
    Calls Tryz.prog 25 #[.agg #[.int .i64 cx, .int .i64 cy, .int .i64 size, .int .i64 cols, .int .i64 rows, pv], .agg #[.int .i64 xl, .int .i64 xh, .int .i64 yl, .int .i64 yh], .agg #[.int .i64 lethal, .int .i64 cap]] w
      (MostSpr w (mostQ zs (askE cx cy size cols rows zs xl xh yl yh lethal cap) cap (cellsL cx cy size cols rows xl xh yl yh) (cellsM cx cy size cols rows xl xh yl yh)) (mostO zs (askE cx cy size cols rows zs xl xh yl yh lethal cap) cap (cellsL cx cy size cols rows xl xh yl yh) (cellsM cx cy size cols rows xl xh yl yh))
        (mostP zs (askE cx cy size cols rows zs xl xh yl yh lethal cap) cap (cellsL cx cy size cols rows xl xh yl yh) (cellsM cx cy size cols rows xl xh yl yh)) (mostN zs (askE cx cy size cols rows zs xl xh yl yh lethal cap) cap (cellsL cx cy size cols rows xl xh yl yh) (cellsM cx cy size cols rows xl xh yl yh)) (mostE zs (askE cx cy size cols rows zs xl xh yl yh lethal cap) cap (cellsL cx cy size cols rows xl xh yl yh) (cellsM cx cy size cols rows xl xh yl yh))) := by
  by_cases h0 : askE cx cy size cols rows zs xl xh yl yh lethal cap = 0
  · have hc := cells_ok h0
    obtain ⟨_, _, _, hk4⟩ := askE_zero h0
    obtain ⟨v9, v10⟩ := outB_false.1 hk4
    rw [h0]
    by_cases hL : cellsL cx cy size cols rows xl xh yl yh = []
    · have hp := hc.perm
      rw [hL] at hp
      have ho : ordS zs [] = [] := List.Perm.eq_nil hp
      refine (most_none cx cy size cols rows pv zs xl xh yl yh lethal cap w hv hn h0 hL).mono fun e w' h => mostPost_spr hc v9 ?_
      rw [hL, ho]
      exact h
    · have hlen := hc.perm.length_eq
      have hst : StableC zs (cellsL cx cy size cols rows xl xh yl yh) (ordS zs (cellsL cx cy size cols rows xl xh yl yh)) := by
        have e : ordS zs (cellsL cx cy size cols rows xl xh yl yh) = stO zs hc.n0 _ := dif_pos hc.n0
        rw [e]
        exact stable_all zs hc.n0 _ hc.r hc.asc (by have := hc.len; omega)
      exact (most_ok cx cy size cols rows pv zs xl xh yl yh lethal cap w hv hn h0 _ hst hlen (by rw [hlen]; exact List.length_pos_iff.2 hL) (by rw [hlen]; exact hc.len) (fun c hcm => hc.r c (hc.perm.mem_iff.1 hcm))).mono fun e w' h => mostPost_spr hc v9 h
  · refine (most_bad cx cy size cols rows pv zs xl xh yl yh lethal cap w hv hn h0).mono fun e w' h => ⟨.slice none 0 0, ?_, ?_, h.2⟩
    · have e1 : mostE zs (askE cx cy size cols rows zs xl xh yl yh lethal cap) cap (cellsL cx cy size cols rows xl xh yl yh) (cellsM cx cy size cols rows xl xh yl yh) = askE cx cy size cols rows zs xl xh yl yh lethal cap := if_neg h0
      unfold mostN mostO mostP
      rw [e1, if_neg h0, if_neg h0, if_neg h0, h.1]
    · have e1 : mostE zs (askE cx cy size cols rows zs xl xh yl yh lethal cap) cap (cellsL cx cy size cols rows xl xh yl yh) (cellsM cx cy size cols rows xl xh yl yh) = askE cx cy size cols rows zs xl xh yl yh lethal cap := if_neg h0
      unfold mostQ
      rw [e1, if_neg h0]
      exact ⟨_, _, rfl, .inl rfl⟩
end Go.Proofs.YtmglbegbijofkaaGreatDoor
/- Plain (over the contract of Most): what Most says grows with the people, the Cap and the area; its bounds. -/
namespace Go.Proofs.YtmglbegbijofkaaGreatDoor
open Go.RowKit
theorem idxP_all {p : Int → Bool} : ∀ (zs : List Int) (k : Int), (∀ z ∈ zs, p z = false) → idxP p zs k = -1
  | [], _, _ => rfl
  | z :: zs, k, h => by
    simp only [idxP]
    rw [h z (by simp)]
    exact idxP_all zs (k + 1) (fun y hy => h y (by simp [hy]))
theorem chkE_of {cx cy size cols rows : Int} {zs : List Int} (hm : mapB cx cy size cols rows = false) (hl : (zs.length : Int) = cols * rows) (hz : ∀ z ∈ zs, 0 ≤ z ∧ z ≤ 1000000) : chkE cx cy size cols rows zs = 0 := by
  unfold chkE
  rw [hm, idxP_all (p := outP) zs 0 (fun z hz' => outB_false.2 (hz z hz'))]
  simp [hl]
theorem askE_of {cx cy size cols rows : Int} {zs : List Int} {xl xh yl yh lethal cap : Int} (hc : chkE cx cy size cols rows zs = 0) (hw : wildB xl xh yl yh = false) (h1 : outB lethal 0 10000 = false) (h2 : outB cap 1 1000000 = false) : askE cx cy size cols rows zs xl xh yl yh lethal cap = 0 := by
  unfold askE
  rw [hc, hw, h1, h2]
  simp
theorem most_mono {zs zs' : List Int} {cap cap' : Int} {L L' : List Int} {more more' : Bool} (hc : CellsOK zs L) (hc' : CellsOK zs' L') (h1 : 1 ≤ cap) (hcc : cap ≤ cap') (hzz : ∀ c, zc zs c ≤ zc zs' c) (hl : ∀ c ∈ L, c ∈ L') (hm : more = true → more' = true) (he : mostE zs 0 cap L more = 0) :
    mostE zs' 0 cap' L' more' = 0 ∧ mostN zs 0 cap L more ≤ mostN zs' 0 cap' L' more' := by
  have h2 := (mostE_zero.1 he).2
  have hlen : (ordS zs L).length ≤ (ordS zs' L').length := by
    rw [hc.perm.length_eq, hc'.perm.length_eq]
    exact nodup_len (hc.asc.imp (fun h => by omega)) hl
  have e' : mostE zs' 0 cap' L' more' = 0 := mostE_zero.2 ⟨rfl, left_mono h1 hcc hc.desc hc'.desc hlen hm h2⟩
  refine ⟨e', ?_⟩
  unfold mostN
  rw [if_pos he, if_pos e']
  exact gv_mono hc'.z hzz h1 hcc hc.desc hc.nodup hc.perm hc'.desc hc'.perm hl
theorem cells_more {cx cy size cols rows : Int} {zs : List Int} {xl xh yl yh xl' xh' yl' yh' lethal cap lethal' cap' : Int} (h : askE cx cy size cols rows zs xl xh yl yh lethal cap = 0) (h' : askE cx cy size cols rows zs xl' xh' yl' yh' lethal' cap' = 0)
    (a : xl' ≤ xl) (b : xh ≤ xh') (c : yl' ≤ yl) (d : yh ≤ yh') : ∀ x ∈ cellsL cx cy size cols rows xl xh yl yh, x ∈ cellsL cx cy size cols rows xl' xh' yl' yh' := by
  rw [cellsL_fl h, cellsL_fl h']
  intro x hx
  rw [flL_mem] at hx ⊢
  obtain ⟨h1, h2, h3⟩ := hx
  refine ⟨h1, h2, ?_⟩
  unfold meetsB at *
  simp only [Bool.and_eq_true, decide_eq_true_eq] at *
  omega
theorem cellsM_more {cx cy size cols rows xl xh yl yh xl' xh' yl' yh' : Int} (hs : 1 ≤ size) (a : xl' ≤ xl) (b : xh ≤ xh') (c : yl' ≤ yl) (d : yh ≤ yh') : cellsM cx cy size cols rows xl xh yl yh = true → cellsM cx cy size cols rows xl' xh' yl' yh' = true := by
  unfold cellsM
  rw [← outside_eq _ _ _ _ _ _ _ _ _ (by omega), ← outside_eq _ _ _ _ _ _ _ _ _ (by omega)]
  unfold outsideB
  simp only [Bool.or_eq_true, decide_eq_true_eq]
  omega
theorem zc_set {zs : List Int} {i : Nat} {v : Int} (hi : i < zs.length) (hv : zs.getD i 0 ≤ v) (c : Int) : zc zs c ≤ zc (zs.set i v) c := by
  unfold zc
  rw [getD_set zs i c.toNat v hi]
  split
  · rename_i e; rw [← e]; exact hv
  · exact Int.le_refl _
theorem ppl_sum {zs : List Int} (hz : ∀ z ∈ zs, 0 ≤ z ∧ z ≤ 1000000) : ∀ (ps : List (Int × Int)), (∀ q ∈ ps, 0 ≤ q.2) → 0 ≤ ppl zs ps ∧ ppl zs ps ≤ sumN ps * 1000000
  | [], _ => by simp [ppl, sumN]
  | p :: ps, h => by
    have ih := ppl_sum hz ps (fun q hq => h q (by simp [hq]))
    have hp := h p (by simp)
    have h1 := zc_bd hz p.1
    have b1 := Int.mul_nonneg hp h1.1
    have b2 := Int.mul_le_mul_of_nonneg_left h1.2 hp
    rw [ppl_cons, sumN_cons, Int.add_mul]
    omega
theorem mostN_bd {zs : List Int} {ask cap : Int} {L : List Int} {more : Bool} (hc : ask = 0 → CellsOK zs L) (h1 : ask = 0 → 1 ≤ cap) : 0 ≤ mostN zs ask cap L more ∧ mostN zs ask cap L more ≤ 1000000000000 := by
  unfold mostN
  split
  · rename_i he
    have ha := (mostE_zero.1 he).1
    have hk := hc ha
    have hf := gv_feas (h1 ha) _ hk.desc hk.nodup
    have := ppl_sum hk.z (gv zs cap (ordS zs L)).1 (fun q hq => (hf.part q hq).1)
    have := hf.sum
    omega
  · omega
/-- what Most says, by numbers -/
def mE (cx cy size cols rows : Int) (zs : List Int) (xl xh yl yh lethal cap : Int) : Int := mostE zs (askE cx cy size cols rows zs xl xh yl yh lethal cap) cap (cellsL cx cy size cols rows xl xh yl yh) (cellsM cx cy size cols rows xl xh yl yh)
def mN (cx cy size cols rows : Int) (zs : List Int) (xl xh yl yh lethal cap : Int) : Int := mostN zs (askE cx cy size cols rows zs xl xh yl yh lethal cap) cap (cellsL cx cy size cols rows xl xh yl yh) (cellsM cx cy size cols rows xl xh yl yh)
def MostNum (w : World) (n k : Int) (e : Ending) (w' : World) : Prop := ∃ (a : Option Addr) (m c : Nat) (o p : Int), e = .returned (.tuple #[.agg #[.slice a m c, .int .i64 o, .int .i64 p], .int .i64 n, .int .i64 k]) ∧ Below w.heap.size w w'
theorem most_num (cx cy size cols rows : Int) (pv : Value) (zs : List Int) (xl xh yl yh lethal cap : Int) (w : World) (hv : IntsAt w pv zs) (hn : zs.length ≤ 9223372036854775806) :
    Calls Tryz.prog 25 #[.agg #[.int .i64 cx, .int .i64 cy, .int .i64 size, .int .i64 cols, .int .i64 rows, pv], .agg #[.int .i64 xl, .int .i64 xh, .int .i64 yl, .int .i64 yh], .agg #[.int .i64 lethal, .int .i64 cap]] w
      (MostNum w (mN cx cy size cols rows zs xl xh yl yh lethal cap) (mE cx cy size cols rows zs xl xh yl yh lethal cap)) :=
  (most_any cx cy size cols rows pv zs xl xh yl yh lethal cap w hv hn).mono fun _ _ ⟨v, h1, h2, h3⟩ => by obtain ⟨a, c, rfl, _⟩ := h2; exact ⟨a, _, c, _, _, h1, h3⟩
structure AskOK (cx cy size cols rows : Int) (zs : List Int) (xl xh yl yh lethal cap : Int) : Prop where
  chk : chkE cx cy size cols rows zs = 0
  mapb : mapB cx cy size cols rows = false
  zl : (zs.length : Int) = cols * rows
  wild : wildB xl xh yl yh = false
  leth : outB lethal 0 10000 = false
  capb : outB cap 1 1000000 = false
  ask : askE cx cy size cols rows zs xl xh yl yh lethal cap = 0
  cells : CellsOK zs (cellsL cx cy size cols rows xl xh yl yh)
theorem ask_ok {cx cy size cols rows : Int} {zs : List Int} {xl xh yl yh lethal cap : Int} (h : askE cx cy size cols rows zs xl xh yl yh lethal cap = 0) : AskOK cx cy size cols rows zs xl xh yl yh lethal cap := by
  obtain ⟨h1, h2, h3, h4⟩ := askE_zero h
  obtain ⟨h5, h6, _⟩ := chkE_zero h1
  exact ⟨h1, h5, h6, h2, h3, h4, h, cells_ok h⟩
theorem mE_ok {cx cy size cols rows : Int} {zs : List Int} {xl xh yl yh lethal cap : Int} (h : mE cx cy size cols rows zs xl xh yl yh lethal cap = 0) : AskOK cx cy size cols rows zs xl xh yl yh lethal cap := ask_ok (mostE_zero.1 h).1
theorem more_people {cx cy size cols rows : Int} {zs : List Int} {xl xh yl yh lethal cap : Int} (h : mE cx cy size cols rows zs xl xh yl yh lethal cap = 0) {i : Nat} (hi : i < zs.length) {v : Int} (h0 : zs.getD i 0 ≤ v) (h1 : v ≤ 1000000) :
    mE cx cy size cols rows (zs.set i v) xl xh yl yh lethal cap = 0 ∧ mN cx cy size cols rows zs xl xh yl yh lethal cap ≤ mN cx cy size cols rows (zs.set i v) xl xh yl yh lethal cap := by
  have k := mE_ok h
  have hz0 : 0 ≤ zs.getD i 0 := by
    rw [List.getD_eq_getElem?_getD, List.getElem?_eq_getElem hi]; exact (k.cells.z _ (List.getElem_mem hi)).1
  have hz : ∀ z ∈ zs.set i v, 0 ≤ z ∧ z ≤ 1000000 := fun z hzm => by
    rcases List.mem_or_eq_of_mem_set hzm with h2 | rfl
    · exact k.cells.z z h2
    · omega
  have ha' : askE cx cy size cols rows (zs.set i v) xl xh yl yh lethal cap = 0 := askE_of (chkE_of k.mapb (by rw [List.length_set]; exact k.zl) hz) k.wild k.leth k.capb
  have := most_mono k.cells (cells_ok ha') (outB_false.1 k.capb).1 (Int.le_refl _) (zc_set hi h0) (fun _ hc => hc) (fun hm => hm) (by unfold mE at h; rw [k.ask] at h; exact h)
  unfold mE mN
  rw [ha', k.ask]
  exact this
theorem more_cap {cx cy size cols rows : Int} {zs : List Int} {xl xh yl yh lethal cap cap' : Int} (h : mE cx cy size cols rows zs xl xh yl yh lethal cap = 0) (h0 : cap ≤ cap') (h1 : cap' ≤ 1000000) :
    mE cx cy size cols rows zs xl xh yl yh lethal cap' = 0 ∧ mN cx cy size cols rows zs xl xh yl yh lethal cap ≤ mN cx cy size cols rows zs xl xh yl yh lethal cap' := by
  have k := mE_ok h
  have hc := outB_false.1 k.capb
  have ha' : askE cx cy size cols rows zs xl xh yl yh lethal cap' = 0 := askE_of k.chk k.wild k.leth (outB_false.2 (by omega))
  have := most_mono k.cells k.cells hc.1 h0 (fun _ => Int.le_refl _) (fun _ hc => hc) (fun hm => hm) (by unfold mE at h; rw [k.ask] at h; exact h)
  unfold mE mN
  rw [ha', k.ask]
  exact this
theorem more_area {cx cy size cols rows : Int} {zs : List Int} {xl xh yl yh lethal cap xh' yl' : Int} (h : mE cx cy size cols rows zs xl xh yl yh lethal cap = 0) (h0 : xh ≤ xh') (h1 : xh' ≤ 2000000000) (h2 : yl' ≤ yl) (h3 : -2000000000 ≤ yl') :
    mE cx cy size cols rows zs xl xh' yl' yh lethal cap = 0 ∧ mN cx cy size cols rows zs xl xh yl yh lethal cap ≤ mN cx cy size cols rows zs xl xh' yl' yh lethal cap := by
  have k := mE_ok h
  have hc := outB_false.1 k.capb
  obtain ⟨⟨v1, v2, v3⟩, v4, v5, v6⟩ := wildB_false.1 k.wild
  obtain ⟨_, _, ⟨u5, _⟩, _⟩ := mapB_false.1 k.mapb
  have ha' : askE cx cy size cols rows zs xl xh' yl' yh lethal cap = 0 := askE_of k.chk (wildB_false.2 ⟨⟨by omega, by omega, by omega⟩, by omega, by omega, by omega⟩) k.leth k.capb
  have := most_mono k.cells (cells_ok ha') hc.1 (Int.le_refl _) (fun _ => Int.le_refl _) (cells_more k.ask ha' (Int.le_refl _) h0 h2 (Int.le_refl _)) (cellsM_more u5 (Int.le_refl _) h0 h2 (Int.le_refl _)) (by unfold mE at h; rw [k.ask] at h; exact h)
  unfold mE mN
  rw [ha', k.ask]
  exact this
theorem mN_bd (cx cy size cols rows : Int) (zs : List Int) (xl xh yl yh lethal cap : Int) : 0 ≤ mN cx cy size cols rows zs xl xh yl yh lethal cap ∧ mN cx cy size cols rows zs xl xh yl yh lethal cap ≤ 1000000000000 :=
  mostN_bd (fun h => cells_ok h) (fun h => (outB_false.1 (ask_ok h).capb).1)
theorem mN_bad {cx cy size cols rows : Int} {zs : List Int} {xl xh yl yh lethal cap : Int} (h : ¬ mE cx cy size cols rows zs xl xh yl yh lethal cap = 0) : mN cx cy size cols rows zs xl xh yl yh lethal cap = 0 := if_neg h
theorem cells9 {W : World} {b : Nat} {t : TypeId} {a0 a1 a2 a3 a4 a5 a6 a7 a8 : Value} (h : cellsAt W b t #[a0, a1, a2, a3, a4, a5, a6, a7, a8]) : W.cell? ⟨b, 0, none⟩ = some a0 ∧ W.cell? ⟨b, 1, none⟩ = some a1 ∧ W.cell? ⟨b, 2, none⟩ = some a2 ∧ W.cell? ⟨b, 3, none⟩ = some a3 ∧ W.cell? ⟨b, 4, none⟩ = some a4 ∧ W.cell? ⟨b, 5, none⟩ = some a5 ∧ W.cell? ⟨b, 6, none⟩ = some a6 ∧ W.cell? ⟨b, 7, none⟩ = some a7 ∧ W.cell? ⟨b, 8, none⟩ = some a8 :=
  ⟨h.cell 0, h.cell 1, h.cell 2, h.cell 3, h.cell 4, h.cell 5, h.cell 6, h.cell 7, h.cell 8⟩
end Go.Proofs.YtmglbegbijofkaaGreatDoor
