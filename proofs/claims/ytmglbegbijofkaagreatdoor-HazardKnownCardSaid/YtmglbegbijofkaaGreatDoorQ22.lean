import Derived.Test.YtmglbegbijofkaaGreatDoorQ20
import Derived.Test.YtmglbegbijofkaaGreatDoorQ21
import Derived.Test.YtmglbegbijofkaaGreatDoorQ05
import Derived.Shelf.SlSortCmp.NoneTotal
import Derived.Test.YtmglbegbijofkaaGreatDoorQ00
import Derived.Test.YtmglbegbijofkaaGreatDoorQ06
set_option linter.unusedVariables false
set_option linter.unusedSimpArgs false
namespace Go.Proofs.YtmglbegbijofkaaGreatDoor
open Go.RowKit Go.Shelf Go.Sort
theorem sortParts_none (p : Option Addr) (cap : Nat) (fv : Value) (w : World) : Calls Tryz.prog 86 #[.slice p 0 cap, fv] w fun e w' => e = .returned (.tuple #[]) ∧ w = w' := (AnyF.slices_SortFunc_none Tryz.sortParts p cap fv w).mono fun _ _ ⟨h1, h2⟩ => ⟨h1, h2.symm⟩
theorem insertInts_none (p : Option Addr) (cap : Nat) (fv : Value) (w : World) : Calls Tryz.prog 178 #[.slice p 0 cap, .int .i64 0, .int .i64 0, fv] w fun e w' => e = .returned (.tuple #[]) ∧ w = w' := (AnyF.insertionSortCmpFunc_none (P := Tryz.prog) (ρ := Tryz.insertInts_ren) { Tryz.insertInts with } p cap fv w).mono fun _ _ ⟨h1, h2⟩ => ⟨h1, h2.symm⟩
set_option maxRecDepth 100000 in
set_option maxHeartbeats 800000 in
theorem stable_none (p : Option Addr) (cap : Nat) (fv : Value) (w : World) : Calls Tryz.prog 143 #[.slice p 0 cap, .int .i64 0, fv] w fun e w' => e = .returned (.tuple #[]) ∧ w = w' := by
  have HC := Lib.hid (fun W => insertInts_none p cap fv W)
  go_enter Tryz.func143, Tryz.ntmps143
  go_wp2_with fail
  refine wp_loop_rounds 1 ?_
  rw [rounds_succ]
  go_wp2_with fail
  refine (HC.out _).mono ?_
  rintro e w1 ⟨rfl, rfl⟩
  go_wp2_with fail
  refine wp_loop_rounds 1 ?_
  rw [rounds_succ]
  go_wp2_with fail
  go_end0
  exact ⟨rfl, rfl⟩
set_option maxRecDepth 100000 in
set_option maxHeartbeats 800000 in
theorem sortStable_none (p : Option Addr) (cap : Nat) (fv : Value) (w : World) : Calls Tryz.prog 82 #[.slice p 0 cap, fv] w fun e w' => e = .returned (.tuple #[]) ∧ w = w' := by
  have HC := Lib.hid (fun W => stable_none p cap fv W)
  go_enter Tryz.func82, Tryz.ntmps82
  go_wp2_with fail
  refine (HC.out _).mono ?_
  rintro e w1 ⟨rfl, rfl⟩
  go_wp2_with fail
  go_end0
  exact ⟨rfl, rfl⟩
/-- where no cell is met -/
theorem row_nil {w : World} {B : Nat} {v : Value} (h : w.ownsRow B 3 1 v ([] : List Int).length (([] : List Int).map (Value.int .i64))) : ∃ a c, v = .slice a 0 c := by
  obtain ⟨_, ⟨rfl, _⟩ | ⟨g, cap, cur, rfl, _⟩⟩ := h
  · exact ⟨_, _, rfl⟩
  · exact ⟨_, _, rfl⟩
set_option maxRecDepth 100000 in
set_option maxHeartbeats 1600000 in
theorem most_none (cx cy size cols rows : Int) (pv : Value) (zs : List Int) (xl xh yl yh lethal cap : Int) (w : World) (hv : IntsAt w pv zs) (hn : zs.length ≤ 9223372036854775806)
    (hask : askE cx cy size cols rows zs xl xh yl yh lethal cap = 0) (hL : cellsL cx cy size cols rows xl xh yl yh = []) :
    Calls Tryz.prog 25 #[.agg #[.int .i64 cx, .int .i64 cy, .int .i64 size, .int .i64 cols, .int .i64 rows, pv], .agg #[.int .i64 xl, .int .i64 xh, .int .i64 yl, .int .i64 yh], .agg #[.int .i64 lethal, .int .i64 cap]] w
      (MostPost w zs (gv zs cap []) (cellsM cx cy size cols rows xl xh yl yh)) := by
  have hmf : ∀ (fn : Fn) (first cap : Array Value) (w : World), (Instr.makeFunc fn first cap).run Tryz.prog w = .ok (.func fn first cap) w := fun _ _ _ _ => rfl
  obtain ⟨hk1, hk2, hk3, hk4⟩ := askE_zero hask
  obtain ⟨hm1, hm2, hm3⟩ := chkE_zero hk1
  obtain ⟨⟨u1, u2⟩, ⟨u3, u4⟩, ⟨u5, u6⟩, ⟨u7, u8⟩, u9, u10⟩ := mapB_false.1 hm1
  obtain ⟨⟨v1, v2, v3⟩, v4, v5, v6⟩ := wildB_false.1 hk2
  have hz : ∀ z ∈ zs, 0 ≤ z ∧ z ≤ 1000000 := fun z hz => outB_false.1 (idxP_none (by omega) hm3 z hz)
  have HA : Hid (∀ W, IntsAt W pv zs → Calls Tryz.prog 80 #[.agg #[.int .i64 cx, .int .i64 cy, .int .i64 size, .int .i64 cols, .int .i64 rows, pv], .agg #[.int .i64 xl, .int .i64 xh, .int .i64 yl, .int .i64 yh], .agg #[.int .i64 lethal, .int .i64 cap]] W fun e w' => e = .returned (.int .i64 0) ∧ Below W.heap.size W w') := show ∀ _, _ from fun W hW => by
    have := asked_any cx cy size cols rows pv zs xl xh yl yh lethal cap W hW hn
    rw [hask] at this
    exact this
  have HC : Hid (∀ W, Calls Tryz.prog 81 #[.agg #[.int .i64 cx, .int .i64 cy, .int .i64 size, .int .i64 cols, .int .i64 rows, pv], .agg #[.int .i64 xl, .int .i64 xh, .int .i64 yl, .int .i64 yh]] W (CellsPost W [] (cellsM cx cy size cols rows xl xh yl yh))) := show ∀ _, _ from fun W => by
    have := cells_any cx cy size cols rows pv xl xh yl yh W u1 u2 u3 u4 u5 u6 u7 u8 u9 u10 v1 v2 v4 v5 v3 v6
    unfold cellsL at hL
    rw [hL] at this
    exact this
  have HPE : Hid (∀ W out price, IntsAt W pv zs → Calls Tryz.prog 88 #[.agg #[.int .i64 cx, .int .i64 cy, .int .i64 size, .int .i64 cols, .int .i64 rows, pv], .agg #[.slice none 0 0, .int .i64 out, .int .i64 price]] W fun e w' => e = .returned (.int .i64 0) ∧ Below W.heap.size W w') := show ∀ _ _ _, _ from fun W out price hW =>
    people_any cx cy size cols rows pv (.slice none 0 0) out price zs [] W hW ⟨none, 0, rfl, .inl rfl⟩ hz (fun p hp => by simp at hp) (by simp)
  have HG : Hid (gv zs cap [] = ([], 1000000, 0)) := show _ = _ from rfl
  obtain ⟨pa, pc, rfl, hx⟩ := id hv
  clear hx
  have HV := Lib.hid hv
  clear hv hz hask hk1 hk2 hk3 hk4 hm1 hm2 hm3 u1 u2 u3 u4 u5 u6 u7 u8 u9 u10 v1 v2 v3 v4 v5 v6 hL
  generalize cellsM cx cy size cols rows xl xh yl yh = more at *
  go_enter Tryz.func25, Tryz.ntmps25
  go_wp2_with fail
  obtain ⟨hM0, hA0, hW0, hS0, hz0, hB0⟩ := alloc4 w #[.int .i64 cx, .int .i64 cy, .int .i64 size, .int .i64 cols, .int .i64 rows, .slice pa zs.length pc] #[.int .i64 xl, .int .i64 xh, .int .i64 yl, .int .i64 yh] #[.int .i64 lethal, .int .i64 cap] #[.slice none 0 0, .int .i64 0, .int .i64 0] 42 25 44 47
  generalize (((w.alloc (.cells #[.int .i64 cx, .int .i64 cy, .int .i64 size, .int .i64 cols, .int .i64 rows, .slice pa zs.length pc] 42)).alloc (.cells #[.int .i64 xl, .int .i64 xh, .int .i64 yl, .int .i64 yh] 25)).alloc (.cells #[.int .i64 lethal, .int .i64 cap] 44)).alloc (.cells #[.slice none 0 0, .int .i64 0, .int .i64 0] 47) = W0 at *
  have HZ0 := Lib.hid hz0
  clear hz0
  refine (HA.out W0 (HV.out.below hB0)).mono ?_
  rintro e w1 ⟨rfl, hb1⟩
  have hM1 := hM0.below hb1
  have hA1 := hA0.below hb1
  have hW1 := hW0.below hb1
  have hS1 := hS0.below hb1
  have hB1 := below_trans hB0 hb1
  have hz1 : w.heap.size + 4 ≤ w1.heap.size := by have := hb1.size; rw [HZ0.out] at this; exact this
  clear hM0 hA0 hW0 hS0 hB0 hb1
  obtain ⟨m0, m1, m2, m3, m4, m5⟩ := cells6 hM1
  obtain ⟨a0, a1, a2, a3⟩ := cells4 hA1
  have HM1 := Lib.hid hM1
  have HW1 := Lib.hid hW1
  have HS1 := Lib.hid hS1
  clear hM1 hA1 hW1 hS1
  go_wp2_with fail
  refine (HC.out w1).mono ?_
  rintro e w2 ⟨v, rfl, hown2, hb2⟩
  obtain ⟨a2', c2, rfl⟩ := row_nil hown2
  have HM2 := Lib.hid (HM1.out.below hb2)
  have HW2 := Lib.hid (HW1.out.below hb2)
  have HS2 := Lib.hid (HS1.out.below hb2)
  have hB2 := below_trans hB1 hb2
  have HI2 := Lib.hid (HV.out.below hB2)
  have hz2 := hb2.size
  clear hown2 hb2 m0 m1 m2 m3 m4 m5 a0 a1 a2 a3 hB1 HM1 HW1 HS1
  go_wp2_with fail
  refine (sortStable_none a2' c2 _ w2).mono ?_
  rintro e w3 ⟨rfl, rfl⟩
  obtain ⟨l0, l1⟩ := cells2 HW2.out
  go_wp2_with fail
  refine (giver_any _ _ _).mono ?_
  rintro e w4 ⟨rfl, rfl⟩
  obtain ⟨hl5, hc5, hz5, hb5⟩ := alloc2 w2 #[.int .i64 1000000] #[.int .i64 cap] 3 3
  have HM5 := Lib.hid (HM2.out.below hb5)
  have HS5 := Lib.hid (HS2.out.below hb5)
  have HI5 := Lib.hid (HI2.out.below hb5)
  have hB5 := below_trans hB2 hb5
  have hlc : ((w2.alloc (.cells #[.int .i64 1000000] 3)).alloc (.cells #[.int .i64 cap] 3)).cell? ⟨w2.heap.size, 0, none⟩ = some (.int .i64 1000000) := hl5.cell 0
  clear hl5 hc5 hz5 hb5 HI2 HS2 HM2 HW2 hB2 l0 l1
  generalize (w2.alloc (.cells #[.int .i64 1000000] 3)).alloc (.cells #[.int .i64 cap] 3) = W5 at *
  obtain ⟨s0, s1, s2⟩ := cells3 HS5.out
  have f0 := HS5.out.frozen 0
  have f1 := HS5.out.frozen 1
  have f2 := HS5.out.frozen 2
  go_wp2_with fail
  refine wp_loop_rounds 1 ?_
  rw [rounds_succ]
  go_wp2_with fail
  refine (rest_any w2.heap.size 1000000 W5 hlc).mono ?_
  rintro e w6 ⟨rfl, rfl⟩
  cases more with
  | false =>
    go_wp2_with fail
    refine bodyPost_ret (v := .tuple #[.agg #[.slice none 0 0, .int .i64 0, .int .i64 0], .int .i64 0, .int .i64 9]) (by simp [results, Tryz.results25, go_sem, s0, s1, s2]) rfl (.inl ⟨by rw [HG.out]; simp, rfl, rfl, ?_⟩)
    exact ((hB5.setCell (by show w.heap.size ≤ w.heap.size + 1 + 1 + 1; omega) _).setCell (by show w.heap.size ≤ w.heap.size + 1 + 1 + 1; omega) _).setCell (by show w.heap.size ≤ w.heap.size + 1 + 1 + 1; omega) _
  | true =>
    go_wp2_with fail
    refine (rest_any w2.heap.size 1000000 W5 hlc).mono ?_
    rintro e w6 ⟨rfl, rfl⟩
    go_wp2_with fail
    refine (rest_any w2.heap.size 1000000 W5 hlc).mono ?_
    rintro e w6 ⟨rfl, rfl⟩
    have hsx := (HS5.out.set 1 (.int .i64 1000000)).set 2 (.int .i64 0)
    simp only [List.setIfInBounds_toArray, List.set_cons_zero, List.set_cons_succ] at hsx
    have hmx := (HM5.out.set_other (p := ⟨w.heap.size + 1 + 1 + 1, 1, none⟩) (by show w.heap.size + 1 + 1 + 1 ≠ _; omega) (.int .i64 1000000)).set_other (p := ⟨w.heap.size + 1 + 1 + 1, 2, none⟩) (by show w.heap.size + 1 + 1 + 1 ≠ _; omega) (.int .i64 0)
    have hbx : Below w.heap.size w ((W5.setCell ⟨w.heap.size + 1 + 1 + 1, 1, none⟩ (.int .i64 1000000)).setCell ⟨w.heap.size + 1 + 1 + 1, 2, none⟩ (.int .i64 0)) := (hB5.setCell (by show w.heap.size ≤ w.heap.size + 1 + 1 + 1; omega) _).setCell (by show w.heap.size ≤ w.heap.size + 1 + 1 + 1; omega) _
    have HSX := Lib.hid hsx
    have HMX := Lib.hid hmx
    clear hsx hmx
    go_wp2_with fail
    generalize (W5.setCell ⟨w.heap.size + 1 + 1 + 1, 1, none⟩ (.int .i64 1000000)).setCell ⟨w.heap.size + 1 + 1 + 1, 2, none⟩ (.int .i64 0) = X at *
    clear s0 s1 s2 f0 f1 f2 hlc HM5 HS5
    refine (sortParts_none none 0 _ X).mono ?_
    rintro e w7 ⟨rfl, rfl⟩
    obtain ⟨m0, m1, m2, m3, m4, m5⟩ := cells6 HMX.out
    obtain ⟨s0', s1', s2'⟩ := cells3 HSX.out
    have f0' := HSX.out.frozen 0
    have f1' := HSX.out.frozen 1
    have f2' := HSX.out.frozen 2
    have hslt := HSX.out.lt
    have HINX := Lib.hid (HV.out.below hbx)
    go_wp2_with fail
    go_region_with (go_at_call 88; refine (HPE.out _ _ _ (HINX.out.below (Below.refl _ _).drew)).mono ?_; rintro e w9 ⟨rfl, hb9⟩; have s0' := below_cell hb9 s0'; have s1' := below_cell hb9 s1'; have s2' := below_cell hb9 s2'; have f0' := (hb9.frozen (p := ⟨w.heap.size + 1 + 1 + 1, 0, none⟩) hslt).trans f0'; have f1' := (hb9.frozen (p := ⟨w.heap.size + 1 + 1 + 1, 1, none⟩) hslt).trans f1'; have f2' := (hb9.frozen (p := ⟨w.heap.size + 1 + 1 + 1, 2, none⟩) hslt).trans f2')
    all_goals
      go_wp2_with fail
      refine bodyPost_ret (v := .tuple #[.agg #[.slice none 0 0, .int .i64 1000000, .int .i64 0], .int .i64 0, .int .i64 0]) (by simp [results, Tryz.results25, go_sem, s0', s1', s2']) rfl (.inr ⟨by rw [HG.out]; simp, .slice none 0 0, [], ?_, ?_, List.Pairwise.nil, ⟨none, 0, rfl, .inl rfl⟩, ?_⟩)
      · rw [HG.out]; rfl
      · rw [HG.out]
      · exact (below_trans hbx (below_drew' hb9)).grown (set3_grown _ _ _ _ _) (by have := hbx.size; have := hb9.size; simp at this; omega) (fun k e => by cases e; omega)
set_option maxRecDepth 100000 in
set_option maxHeartbeats 800000 in
theorem most_bad (cx cy size cols rows : Int) (pv : Value) (zs : List Int) (xl xh yl yh lethal cap : Int) (w : World) (hv : IntsAt w pv zs) (hn : zs.length ≤ 9223372036854775806)
    (hask : ¬ askE cx cy size cols rows zs xl xh yl yh lethal cap = 0) :
    Calls Tryz.prog 25 #[.agg #[.int .i64 cx, .int .i64 cy, .int .i64 size, .int .i64 cols, .int .i64 rows, pv], .agg #[.int .i64 xl, .int .i64 xh, .int .i64 yl, .int .i64 yh], .agg #[.int .i64 lethal, .int .i64 cap]] w fun e w' =>
      e = .returned (.tuple #[.agg #[.slice none 0 0, .int .i64 0, .int .i64 0], .int .i64 0, .int .i64 (askE cx cy size cols rows zs xl xh yl yh lethal cap)]) ∧ Below w.heap.size w w' := by
  have hmf : ∀ (fn : Fn) (first cap : Array Value) (w : World), (Instr.makeFunc fn first cap).run Tryz.prog w = .ok (.func fn first cap) w := fun _ _ _ _ => rfl
  have HA := Lib.hid (fun W (hW : IntsAt W pv zs) => asked_any cx cy size cols rows pv zs xl xh yl yh lethal cap W hW hn)
  obtain ⟨pa, pc, rfl, hx⟩ := id hv
  clear hx
  have HV := Lib.hid hv
  have hak : (askE cx cy size cols rows zs xl xh yl yh lethal cap != 0) = true := by simpa using hask
  clear hv hask
  generalize askE cx cy size cols rows zs xl xh yl yh lethal cap = ak at *
  go_enter Tryz.func25, Tryz.ntmps25
  go_wp2_with fail
  obtain ⟨hM0, hA0, hW0, hS0, hz0, hB0⟩ := alloc4 w #[.int .i64 cx, .int .i64 cy, .int .i64 size, .int .i64 cols, .int .i64 rows, .slice pa zs.length pc] #[.int .i64 xl, .int .i64 xh, .int .i64 yl, .int .i64 yh] #[.int .i64 lethal, .int .i64 cap] #[.slice none 0 0, .int .i64 0, .int .i64 0] 42 25 44 47
  generalize (((w.alloc (.cells #[.int .i64 cx, .int .i64 cy, .int .i64 size, .int .i64 cols, .int .i64 rows, .slice pa zs.length pc] 42)).alloc (.cells #[.int .i64 xl, .int .i64 xh, .int .i64 yl, .int .i64 yh] 25)).alloc (.cells #[.int .i64 lethal, .int .i64 cap] 44)).alloc (.cells #[.slice none 0 0, .int .i64 0, .int .i64 0] 47) = W0 at *
  have HZ0 := Lib.hid hz0
  clear hz0
  refine (HA.out W0 (HV.out.below hB0)).mono ?_
  rintro e w1 ⟨rfl, hb1⟩
  have hM1 := hM0.below hb1
  have hA1 := hA0.below hb1
  have hW1 := hW0.below hb1
  have hS1 := hS0.below hb1
  have hB1 := below_trans hB0 hb1
  have hz1 : w.heap.size + 4 ≤ w1.heap.size := by have := hb1.size; rw [HZ0.out] at this; exact this
  clear hM0 hA0 hW0 hS0 hB0 hb1
  obtain ⟨s0, s1, s2⟩ := cells3 hS1
  have f0 := hS1.frozen 0
  have f1 := hS1.frozen 1
  have f2 := hS1.frozen 2
  go_wp2_with fail
  refine bodyPost_ret (v := .tuple #[.agg #[.slice none 0 0, .int .i64 0, .int .i64 0], .int .i64 0, .int .i64 ak]) (by simp [results, Tryz.results25, go_sem, s0, s1, s2]) rfl ⟨rfl, ?_⟩
  exact ((hB1.setCell (by show w.heap.size ≤ w.heap.size + 1 + 1 + 1; omega) _).setCell (by show w.heap.size ≤ w.heap.size + 1 + 1 + 1; omega) _).setCell (by show w.heap.size ≤ w.heap.size + 1 + 1 + 1; omega) _
end Go.Proofs.YtmglbegbijofkaaGreatDoor
namespace Go.Proofs.YtmglbegbijofkaaGreatDoor
open Go.RowKit Go.Shelf Go.Sort
def ordS (zs L : List Int) : List Int := if h : 0 < zs.length then stO zs h L else []
theorem cellsL_fl {cx cy size cols rows : Int} {zs : List Int} {xl xh yl yh lethal cap : Int} (hask : askE cx cy size cols rows zs xl xh yl yh lethal cap = 0) : cellsL cx cy size cols rows xl xh yl yh = flL cx cy (1000 * size) cols xl xh yl yh zs.length := by
  obtain ⟨hk1, _⟩ := askE_zero hask
  obtain ⟨hm1, hzl, _⟩ := chkE_zero hk1
  obtain ⟨⟨u1, u2⟩, ⟨u3, u4⟩, ⟨u5, u6⟩, ⟨u7, u8⟩, u9, u10⟩ := mapB_false.1 hm1
  exact (flL_rows u5 u7 u9 hzl).symm
theorem flL_mem {cx cy s cols xl xh yl yh : Int} {k : Nat} {x : Int} : x ∈ flL cx cy s cols xl xh yl yh k ↔ 0 ≤ x ∧ x < k ∧ meetsB cx cy s xl xh yl yh (x / cols) (x % cols) = true := by
  unfold flL
  simp only [List.mem_map, List.mem_filter, List.mem_range]
  constructor
  · rintro ⟨i, ⟨h1, h2⟩, rfl⟩; exact ⟨by omega, by omega, h2⟩
  · rintro ⟨h1, h2, h3⟩; exact ⟨x.toNat, ⟨by omega, by rw [show ((x.toNat : Nat) : Int) = x by omega]; exact h3⟩, by omega⟩
theorem flL_asc (cx cy s cols xl xh yl yh : Int) (k : Nat) : (flL cx cy s cols xl xh yl yh k).Pairwise (· < ·) := by
  unfold flL
  rw [List.pairwise_map]
  exact (List.Pairwise.filter _ List.pairwise_lt_range).imp (fun h => by omega)
/-- what is known of the cells of an area and of the order that Most gives them -/
structure CellsOK (zs L : List Int) : Prop where
  n0 : 0 < zs.length
  n4 : zs.length ≤ 400
  z : ∀ z ∈ zs, 0 ≤ z ∧ z ≤ 1000000
  r : ∀ x ∈ L, 0 ≤ x ∧ x < (zs.length : Int)
  asc : L.Pairwise (· < ·)
  len : L.length ≤ 400
  perm : (ordS zs L).Perm L
  ord : (ordS zs L).Pairwise (ltS zs)
theorem CellsOK.desc {zs L : List Int} (h : CellsOK zs L) : (ordS zs L).Pairwise fun a b => zc zs b ≤ zc zs a := h.ord.imp ltS_le
theorem CellsOK.nodup {zs L : List Int} (h : CellsOK zs L) : (ordS zs L).Nodup := ltS_nodup h.ord
theorem cells_ok {cx cy size cols rows : Int} {zs : List Int} {xl xh yl yh lethal cap : Int} (hask : askE cx cy size cols rows zs xl xh yl yh lethal cap = 0) : CellsOK zs (cellsL cx cy size cols rows xl xh yl yh) := by
  rw [cellsL_fl hask]
  obtain ⟨hk1, _⟩ := askE_zero hask
  obtain ⟨hm1, hzl, hix⟩ := chkE_zero hk1
  obtain ⟨⟨u1, u2⟩, ⟨u3, u4⟩, ⟨u5, u6⟩, ⟨u7, u8⟩, u9, u10⟩ := mapB_false.1 hm1
  have p1 : 1 ≤ cols * rows := Int.le_trans (by omega) (Int.mul_le_mul (a := 1) (b := 1) u7 u9 (by omega) (by omega))
  have p2 : cols * rows ≤ 400 := Int.le_trans (Int.mul_le_mul (c := 20) (d := 20) (by omega) (by omega) (by omega) (by omega)) (by omega)
  have n0 : 0 < zs.length := by omega
  have n4 : zs.length ≤ 400 := by omega
  have hr : ∀ x ∈ flL cx cy (1000 * size) cols xl xh yl yh zs.length, 0 ≤ x ∧ x < (zs.length : Int) := fun x hx => ⟨(flL_mem.1 hx).1, (flL_mem.1 hx).2.1⟩
  have ha := flL_asc cx cy (1000 * size) cols xl xh yl yh zs.length
  have e : ordS zs (flL cx cy (1000 * size) cols xl xh yl yh zs.length) = stO zs n0 _ := dif_pos n0
  refine ⟨n0, n4, fun z hz => outB_false.1 (idxP_none (by omega) hix z hz), hr, ha, Nat.le_trans (flL_len _ _ _ _ _ _ _ _ _) n4, ?_, ?_⟩
  · rw [e]; exact stO_perm zs n0 _ hr
  · rw [e]; exact stO_sorted zs n0 _ hr ha
def mostE (zs : List Int) (ask cap : Int) (L : List Int) (more : Bool) : Int := if ask = 0 then (if 0 < (gv zs cap (ordS zs L)).2.1 ∧ more = false then 9 else 0) else ask
def mostN (zs : List Int) (ask cap : Int) (L : List Int) (more : Bool) : Int := if mostE zs ask cap L more = 0 then ppl zs (gv zs cap (ordS zs L)).1 else 0
def mostQ (zs : List Int) (ask cap : Int) (L : List Int) (more : Bool) : List (Int × Int) := if mostE zs ask cap L more = 0 then partsOf (givL zs.length (gv zs cap (ordS zs L)).1) zs.length else []
def mostO (zs : List Int) (ask cap : Int) (L : List Int) (more : Bool) : Int := if mostE zs ask cap L more = 0 then (gv zs cap (ordS zs L)).2.1 else 0
def mostP (zs : List Int) (ask cap : Int) (L : List Int) (more : Bool) : Int := if mostE zs ask cap L more = 0 then gvPrice (gv zs cap (ordS zs L)) else 0
def MostSpr (w : World) (qs : List (Int × Int)) (o p n k : Int) (e : Ending) (w' : World) : Prop :=
  ∃ v, e = .returned (.tuple #[.agg #[v, .int .i64 o, .int .i64 p], .int .i64 n, .int .i64 k]) ∧ SpansAt w' v qs ∧ Below w.heap.size w w'
theorem mostE_zero {zs : List Int} {ask cap : Int} {L : List Int} {more : Bool} : mostE zs ask cap L more = 0 ↔ ask = 0 ∧ ¬ (0 < (gv zs cap (ordS zs L)).2.1 ∧ more = false) := by
  unfold mostE
  by_cases h : ask = 0
  · rw [if_pos h]
    by_cases h2 : 0 < (gv zs cap (ordS zs L)).2.1 ∧ more = false
    · rw [if_pos h2]; simp [h2]
    · rw [if_neg h2]; simp [h, h2]
  · rw [if_neg h]; simp [h]
theorem mostPost_spr {zs : List Int} {cap : Int} {L : List Int} {more : Bool} {w w' : World} {e : Ending} (hc : CellsOK zs L) (h1 : 1 ≤ cap) (h : MostPost w zs (gv zs cap (ordS zs L)) more e w') :
    MostSpr w (mostQ zs 0 cap L more) (mostO zs 0 cap L more) (mostP zs 0 cap L more) (mostN zs 0 cap L more) (mostE zs 0 cap L more) e w' := by
  rcases h with ⟨h2, h3, h4, h5⟩ | ⟨h2, v, qs, h3, h4, h5, h6, h7⟩
  · have he : mostE zs 0 cap L more = 9 := by unfold mostE; rw [if_pos rfl, if_pos ⟨h2, h3⟩]
    refine ⟨.slice none 0 0, ?_, ?_, h5⟩
    · unfold mostN mostO mostP; rw [he, h4]; simp
    · unfold mostQ; rw [he]; exact ⟨_, _, rfl, .inl rfl⟩
  · have he : mostE zs 0 cap L more = 0 := mostE_zero.2 ⟨rfl, h2⟩
    have hf := gv_feas h1 _ hc.desc hc.nodup
    have hi := gv_inv h1 _ hc.desc
    have hq : mostQ zs 0 cap L more = qs := by
      unfold mostQ
      rw [if_pos he]
      exact parts_eq hf.nodup (fun p hp => by
        have hm := hc.perm.mem_iff.1 (hf.sub p.1 (List.mem_map_of_mem hp))
        exact ⟨(hc.r _ hm).1, (hc.r _ hm).2, (hi.part p hp).1⟩) h4 h5
    refine ⟨v, ?_, by rw [hq]; exact h6, h7⟩
    unfold mostN mostO mostP gvPrice
    rw [he, h3]
    simp
theorem most_any (cx cy size cols rows : Int) (pv : Value) (zs : List Int) (xl xh yl yh lethal cap : Int) (w : World) (hv : IntsAt w pv zs) (hn : zs.length ≤ 9223372036854775806) :
    Calls Tryz.prog 25 #[.agg #[.int .i64 cx, .int .i64 cy, .int .i64 size, .int .i64 cols, .int .i64 rows, pv], .agg #[.int .i64 xl, .int .i64 xh, .int .i64 yl, .int .i64 yh], .agg #[.int .i64 lethal, .int .i64 cap]] w
      (MostSpr w (mostQ zs (askE cx cy size cols rows zs xl xh yl yh lethal cap) cap (cellsL cx cy size cols rows xl xh yl yh) (cellsM cx cy size cols rows xl xh yl yh)) (mostO zs (askE cx cy size cols rows zs xl xh yl yh lethal cap) cap (cellsL cx cy size cols rows xl xh yl yh) (cellsM cx cy size cols rows xl xh yl yh))
        (mostP zs (askE cx cy size cols rows zs xl xh yl yh lethal cap) cap (cellsL cx cy size cols rows xl xh yl yh) (cellsM cx cy size cols rows xl xh yl yh)) (mostN zs (askE cx cy size cols rows zs xl xh yl yh lethal cap) cap (cellsL cx cy size cols rows xl xh yl yh) (cellsM cx cy size cols rows xl xh yl yh)) (mostE zs (askE cx cy size cols rows zs xl xh yl yh lethal cap) cap (cellsL cx cy size cols rows xl xh yl yh) (cellsM cx cy size cols rows xl xh yl yh))) := by
  by_cases h0 : askE cx cy size cols rows zs xl xh yl yh lethal cap = 0
  · have hc := cells_ok h0
    obtain ⟨_, _, _, hk4⟩ := askE_zero h0
    obtain ⟨v9, v10⟩ := outB_false.1 hk4
    rw [h0]
    by_cases hL : cellsL cx cy size cols rows xl xh yl yh = []
    · have hp := hc.perm
      rw [hL] at hp
      have ho : ordS zs [] = [] := List.Perm.eq_nil hp
      refine (most_none cx cy size cols rows pv zs xl xh yl yh lethal cap w hv hn h0 hL).mono fun e w' h => mostPost_spr hc v9 ?_
      rw [hL, ho]
      exact h
    · have hlen := hc.perm.length_eq
      have hst : StableC zs (cellsL cx cy size cols rows xl xh yl yh) (ordS zs (cellsL cx cy size cols rows xl xh yl yh)) := by
        have e : ordS zs (cellsL cx cy size cols rows xl xh yl yh) = stO zs hc.n0 _ := dif_pos hc.n0
        rw [e]
        exact stable_all zs hc.n0 _ hc.r hc.asc (by have := hc.len; omega)
      exact (most_ok cx cy size cols rows pv zs xl xh yl yh lethal cap w hv hn h0 _ hst hlen (by rw [hlen]; exact List.length_pos_iff.2 hL) (by rw [hlen]; exact hc.len) (fun c hcm => hc.r c (hc.perm.mem_iff.1 hcm))).mono fun e w' h => mostPost_spr hc v9 h
  · refine (most_bad cx cy size cols rows pv zs xl xh yl yh lethal cap w hv hn h0).mono fun e w' h => ⟨.slice none 0 0, ?_, ?_, h.2⟩
    · have e1 : mostE zs (askE cx cy size cols rows zs xl xh yl yh lethal cap) cap (cellsL cx cy size cols rows xl xh yl yh) (cellsM cx cy size cols rows xl xh yl yh) = askE cx cy size cols rows zs xl xh yl yh lethal cap := if_neg h0
      unfold mostN mostO mostP
      rw [e1, if_neg h0, if_neg h0, if_neg h0, h.1]
    · have e1 : mostE zs (askE cx cy size cols rows zs xl xh yl yh lethal cap) cap (cellsL cx cy size cols rows xl xh yl yh) (cellsM cx cy size cols rows xl xh yl yh) = askE cx cy size cols rows zs xl xh yl yh lethal cap := if_neg h0
      unfold mostQ
      rw [e1, if_neg h0]
      exact ⟨_, _, rfl, .inl rfl⟩
end Go.Proofs.YtmglbegbijofkaaGreatDoor
/- Plain (over the contract of Most): what Most says grows with the people, the Cap and the area; its bounds. -/
namespace Go.Proofs.YtmglbegbijofkaaGreatDoor
open Go.RowKit
theorem ppl_sum {zs : List Int} (hz : ∀ z ∈ zs, 0 ≤ z ∧ z ≤ 1000000) : ∀ (ps : List (Int × Int)), (∀ q ∈ ps, 0 ≤ q.2) → 0 ≤ ppl zs ps ∧ ppl zs ps ≤ sumN ps * 1000000
  | [], _ => by simp [ppl, sumN]
  | p :: ps, h => by
    have ih := ppl_sum hz ps (fun q hq => h q (by simp [hq]))
    have hp := h p (by simp)
    have h1 := zc_bd hz p.1
    have b1 := Int.mul_nonneg hp h1.1
    have b2 := Int.mul_le_mul_of_nonneg_left h1.2 hp
    rw [ppl_cons, sumN_cons, Int.add_mul]
    omega
theorem mostN_bd {zs : List Int} {ask cap : Int} {L : List Int} {more : Bool} (hc : ask = 0 → CellsOK zs L) (h1 : ask = 0 → 1 ≤ cap) : 0 ≤ mostN zs ask cap L more ∧ mostN zs ask cap L more ≤ 1000000000000 := by
  unfold mostN
  split
  · rename_i he
    have ha := (mostE_zero.1 he).1
    have hk := hc ha
    have hf := gv_feas (h1 ha) _ hk.desc hk.nodup
    have := ppl_sum hk.z (gv zs cap (ordS zs L)).1 (fun q hq => (hf.part q hq).1)
    have := hf.sum
    omega
  · omega
/-- what Most says, by numbers -/
def mE (cx cy size cols rows : Int) (zs : List Int) (xl xh yl yh lethal cap : Int) : Int := mostE zs (askE cx cy size cols rows zs xl xh yl yh lethal cap) cap (cellsL cx cy size cols rows xl xh yl yh) (cellsM cx cy size cols rows xl xh yl yh)
def mN (cx cy size cols rows : Int) (zs : List Int) (xl xh yl yh lethal cap : Int) : Int := mostN zs (askE cx cy size cols rows zs xl xh yl yh lethal cap) cap (cellsL cx cy size cols rows xl xh yl yh) (cellsM cx cy size cols rows xl xh yl yh)
def MostNum (w : World) (n k : Int) (e : Ending) (w' : World) : Prop := ∃ (a : Option Addr) (m c : Nat) (o p : Int), e = .returned (.tuple #[.agg #[.slice a m c, .int .i64 o, .int .i64 p], .int .i64 n, .int .i64 k]) ∧ Below w.heap.size w w'
theorem most_num (cx cy size cols rows : Int) (pv : Value) (zs : List Int) (xl xh yl yh lethal cap : Int) (w : World) (hv : IntsAt w pv zs) (hn : zs.length ≤ 9223372036854775806) :
    Calls Tryz.prog 25 #[.agg #[.int .i64 cx, .int .i64 cy, .int .i64 size, .int .i64 cols, .int .i64 rows, pv], .agg #[.int .i64 xl, .int .i64 xh, .int .i64 yl, .int .i64 yh], .agg #[.int .i64 lethal, .int .i64 cap]] w
      (MostNum w (mN cx cy size cols rows zs xl xh yl yh lethal cap) (mE cx cy size cols rows zs xl xh yl yh lethal cap)) :=
  (most_any cx cy size cols rows pv zs xl xh yl yh lethal cap w hv hn).mono fun _ _ ⟨v, h1, h2, h3⟩ => by obtain ⟨a, c, rfl, _⟩ := h2; exact ⟨a, _, c, _, _, h1, h3⟩
structure AskOK (cx cy size cols rows : Int) (zs : List Int) (xl xh yl yh lethal cap : Int) : Prop where
  chk : chkE cx cy size cols rows zs = 0
  mapb : mapB cx cy size cols rows = false
  zl : (zs.length : Int) = cols * rows
  wild : wildB xl xh yl yh = false
  leth : outB lethal 0 10000 = false
  capb : outB cap 1 1000000 = false
  ask : askE cx cy size cols rows zs xl xh yl yh lethal cap = 0
  cells : CellsOK zs (cellsL cx cy size cols rows xl xh yl yh)
theorem ask_ok {cx cy size cols rows : Int} {zs : List Int} {xl xh yl yh lethal cap : Int} (h : askE cx cy size cols rows zs xl xh yl yh lethal cap = 0) : AskOK cx cy size cols rows zs xl xh yl yh lethal cap := by
  obtain ⟨h1, h2, h3, h4⟩ := askE_zero h
  obtain ⟨h5, h6, _⟩ := chkE_zero h1
  exact ⟨h1, h5, h6, h2, h3, h4, h, cells_ok h⟩
theorem mE_ok {cx cy size cols rows : Int} {zs : List Int} {xl xh yl yh lethal cap : Int} (h : mE cx cy size cols rows zs xl xh yl yh lethal cap = 0) : AskOK cx cy size cols rows zs xl xh yl yh lethal cap := ask_ok (mostE_zero.1 h).1
theorem mN_bd (cx cy size cols rows : Int) (zs : List Int) (xl xh yl yh lethal cap : Int) : 0 ≤ mN cx cy size cols rows zs xl xh yl yh lethal cap ∧ mN cx cy size cols rows zs xl xh yl yh lethal cap ≤ 1000000000000 :=
  mostN_bd (fun h => cells_ok h) (fun h => (outB_false.1 (ask_ok h).capb).1)
end Go.Proofs.YtmglbegbijofkaaGreatDoor
namespace Go.Proofs.YtmglbegbijofkaaGreatDoor
open Go.RowKit Go.Shelf Go.Sort
theorem bs_any (v : Value) (L : List Int) (x : Int) (w : World) (hv : IntsAt w v L) (hs : L.Pairwise (· < ·)) (hl : L.length ≤ 1000000) : Calls Tryz.prog 124 #[v, .int .i64 x] w fun e w' => ∃ n : Int, e = .returned (.tuple #[.int .i64 n, .bool (L.contains x)]) ∧ Below w.heap.size w w' := by
  obtain ⟨a, c, rfl, h0 | ⟨b, off, rfl, hb, hc⟩⟩ := hv
  · have : L = [] := List.eq_nil_of_length_eq_zero h0
    subst this
    exact (Tryz.slices_BinarySearch_int_empty a c x w).mono fun e w' ⟨h1, h2⟩ => ⟨0, by rw [h1]; rfl, by rw [h2]; exact Below.refl _ _⟩
  · have h := Tryz.slices_BinarySearch_int b off L.length c L x w (Nat.le_refl _) (by omega) (fun j hj => by have := hc j (by omega); unfold intF at this; rw [← List.getD_eq_getElem?_getD] at this; exact this) (by rw [List.take_length]; exact hs.imp (fun h => by omega))
    rw [List.take_length] at h
    exact h.mono fun e w' ⟨h1, q, h2⟩ => ⟨_, h1, by rw [h2]; exact below_drewN (Below.refl _ _) q⟩
def prvE (zs : List Int) (ask cap : Int) (L : List Int) (more : Bool) (ps : List (Int × Int)) (out price : Int) : Int := if ask ≠ 0 then ask else if sprE L more cap ps out price ≠ 0 then sprE L more cap ps out price else if ppl zs ps = bnd zs cap L price then 0 else 142
def prvN (zs : List Int) (ask cap : Int) (L : List Int) (more : Bool) (ps : List (Int × Int)) (out price : Int) : Int := if prvE zs ask cap L more ps out price = 0 then ppl zs ps else 0
def NumErr (n k : Int) (e : Ending) : Prop := e = .returned (.tuple #[.int .i64 n, .int .i64 k])
theorem numErr_bad {zs : List Int} {ask cap : Int} {L : List Int} {more : Bool} {ps : List (Int × Int)} {out price k : Int} (h : prvE zs ask cap L more ps out price = k) (hk : ¬ k = 0) : NumErr (prvN zs ask cap L more ps out price) (prvE zs ask cap L more ps out price) (.returned (.tuple #[.int .i64 0, .int .i64 k])) := by
  unfold NumErr prvN
  rw [h, if_neg hk]
theorem argBad_drop (L : List Int) (b : Int) (ps : List (Int × Int)) (k : Nat) (hk : k < ps.length) : argBad L b (ps.drop k) = (!L.contains ps[k].1 || decide (ps[k].1 ≤ b) || argBad L ps[k].1 (ps.drop (k + 1))) := by
  rw [List.drop_eq_getElem_cons hk]; rfl
theorem capBad_drop (cap : Int) (ps : List (Int × Int)) (k : Nat) (hk : k < ps.length) : capBad cap (ps.drop k) = (outB ps[k].2 1 cap || capBad cap (ps.drop (k + 1))) := by
  rw [List.drop_eq_getElem_cons hk]; rfl
theorem sumN_take (ps : List (Int × Int)) (k : Nat) (hk : k < ps.length) : sumN (ps.take (k + 1)) = sumN (ps.take k) + ps[k].2 := by
  rw [List.take_succ_eq_append_getElem hk, sumN_snoc]
set_option maxRecDepth 100000 in
set_option maxHeartbeats 4000000 in
theorem prove_any52 (cx cy size cols rows : Int) (pv : Value) (zs : List Int) (xl xh yl yh lethal cap : Int) (sv : Value) (out price : Int) (ps : List (Int × Int)) (w : World) (hv : IntsAt w pv zs) (hs : SpansAt w sv ps) (hn : zs.length ≤ 9223372036854775806) (hpl : ps.length ≤ 9223372036854775806) :
    Calls Tryz.prog 52 #[.agg #[.int .i64 cx, .int .i64 cy, .int .i64 size, .int .i64 cols, .int .i64 rows, pv], .agg #[.int .i64 xl, .int .i64 xh, .int .i64 yl, .int .i64 yh], .agg #[.int .i64 lethal, .int .i64 cap], .agg #[sv, .int .i64 out, .int .i64 price]] w fun e w' =>
      NumErr (prvN zs (askE cx cy size cols rows zs xl xh yl yh lethal cap) cap (cellsL cx cy size cols rows xl xh yl yh) (cellsM cx cy size cols rows xl xh yl yh) ps out price) (prvE zs (askE cx cy size cols rows zs xl xh yl yh lethal cap) cap (cellsL cx cy size cols rows xl xh yl yh) (cellsM cx cy size cols rows xl xh yl yh) ps out price) e ∧ Below w.heap.size w w' := by
  obtain ⟨pa, pc, rfl, hx⟩ := id hv
  clear hx
  obtain ⟨sa, sc, rfl, hx⟩ := id hs
  clear hx
  have HV := Lib.hid hv
  have HSV := Lib.hid hs
  have HA := Lib.hid (fun W (hW : IntsAt W (.slice pa zs.length pc) zs) => asked_any cx cy size cols rows _ zs xl xh yl yh lethal cap W hW hn)
  by_cases hask : askE cx cy size cols rows zs xl xh yl yh lethal cap = 0
  · have k := ask_ok hask
    obtain ⟨⟨u1, u2⟩, ⟨u3, u4⟩, ⟨u5, u6⟩, ⟨u7, u8⟩, u9, u10⟩ := mapB_false.1 k.mapb
    obtain ⟨⟨v1, v2, v3⟩, v4, v5, v6⟩ := wildB_false.1 k.wild
    have HC := Lib.hid (fun W => cells_any cx cy size cols rows (.slice pa zs.length pc) xl xh yl yh W u1 u2 u3 u4 u5 u6 u7 u8 u9 u10 v1 v2 v4 v5 v3 v6)
    obtain ⟨v9, v10⟩ := outB_false.1 k.capb
    have hck := k.cells
    rw [hask] at HA
    rw [hask]
    unfold CellsPost at HC
    change Hid (∀ W, Calls Tryz.prog 81 _ W fun e w' => ∃ v, e = .returned (.tuple #[v, .bool (cellsM cx cy size cols rows xl xh yl yh)]) ∧ w'.ownsRow W.heap.size 3 1 v (cellsL cx cy size cols rows xl xh yl yh).length ((cellsL cx cy size cols rows xl xh yl yh).map (Value.int .i64)) ∧ Below W.heap.size W w') at HC
    clear k u1 u2 u3 u4 u5 u6 u7 u8 u9 u10 v1 v2 v3 v4 v5 v6 hask hv hs
    generalize cellsL cx cy size cols rows xl xh yl yh = L at *
    generalize cellsM cx cy size cols rows xl xh yl yh = more at *
    have hL4 := hck.len
    have HK := Lib.hid hck
    clear hck
    have HP2 : Hid (argBad L (-1) ps = true → prvE zs 0 cap L more ps out price = 2) := show _ → _ from fun h => by unfold prvE sprE; simp [h]
    have HP3 : Hid (argBad L (-1) ps = false → outBad more out price = true → prvE zs 0 cap L more ps out price = 2) := show _ → _ from fun h h2 => by unfold prvE sprE; simp [h, h2]
    have HP4 : Hid (argBad L (-1) ps = false → outBad more out price = false → capBad cap ps = true → prvE zs 0 cap L more ps out price = 140) := show _ → _ from fun h h2 h3 => by unfold prvE sprE; simp [h, h2, h3]
    have HP5 : Hid (argBad L (-1) ps = false → outBad more out price = false → capBad cap ps = false → ¬ out + sumN ps = 1000000 → prvE zs 0 cap L more ps out price = 141) := show _ → _ from fun h h2 h3 h4 => by unfold prvE sprE; simp [h, h2, h3, h4]
    have HP6 : Hid (argBad L (-1) ps = false → outBad more out price = false → capBad cap ps = false → out + sumN ps = 1000000 → ¬ ppl zs ps = bnd zs cap L price → prvE zs 0 cap L more ps out price = 142) := show _ → _ from fun h h2 h3 h4 h5 => by unfold prvE sprE; simp [h, h2, h3, h4, h5]
    have HP7 : Hid (argBad L (-1) ps = false → outBad more out price = false → capBad cap ps = false → out + sumN ps = 1000000 → ppl zs ps = bnd zs cap L price → prvE zs 0 cap L more ps out price = 0) := show _ → _ from fun h h2 h3 h4 h5 => by unfold prvE sprE; simp [h, h2, h3, h4, h5]
    have HPN : Hid (prvE zs 0 cap L more ps out price = 0 → prvN zs 0 cap L more ps out price = ppl zs ps) := show _ → _ from fun h => if_pos h
    have HBAD : Hid (∀ k w', prvE zs 0 cap L more ps out price = k → ¬ k = 0 → Below w.heap.size w w' → NumErr (prvN zs 0 cap L more ps out price) (prvE zs 0 cap L more ps out price) (.returned (.tuple #[.int .i64 0, .int .i64 k])) ∧ Below w.heap.size w w') := show ∀ _ _, _ from fun k w' h h2 h3 => ⟨numErr_bad h h2, h3⟩
    have HOKK : Hid (∀ w', prvE zs 0 cap L more ps out price = 0 → Below w.heap.size w w' → NumErr (prvN zs 0 cap L more ps out price) (prvE zs 0 cap L more ps out price) (.returned (.tuple #[.int .i64 (ppl zs ps), .int .i64 0])) ∧ Below w.heap.size w w') := show ∀ _, _ from fun w' h h3 => ⟨by unfold NumErr; rw [h, HPN.out h], h3⟩
    clear HPN
    generalize prvE zs 0 cap L more ps out price = PE at *
    generalize prvN zs 0 cap L more ps out price = PN at *
    go_enter Tryz.func52, Tryz.ntmps52
    go_wp2_with fail
    obtain ⟨hM0, hA0, hW0, hS0, hz0, hB0⟩ := alloc4 w #[.int .i64 cx, .int .i64 cy, .int .i64 size, .int .i64 cols, .int .i64 rows, .slice pa zs.length pc] #[.int .i64 xl, .int .i64 xh, .int .i64 yl, .int .i64 yh] #[.int .i64 lethal, .int .i64 cap] #[.slice sa ps.length sc, .int .i64 out, .int .i64 price] 42 25 44 47
    generalize (((w.alloc (.cells #[.int .i64 cx, .int .i64 cy, .int .i64 size, .int .i64 cols, .int .i64 rows, .slice pa zs.length pc] 42)).alloc (.cells #[.int .i64 xl, .int .i64 xh, .int .i64 yl, .int .i64 yh] 25)).alloc (.cells #[.int .i64 lethal, .int .i64 cap] 44)).alloc (.cells #[.slice sa ps.length sc, .int .i64 out, .int .i64 price] 47) = W0 at *
    clear hz0
    refine (HA.out W0 (HV.out.below hB0)).mono ?_
    rintro e w1 ⟨rfl, hb1⟩
    have hM := hM0.below hb1
    have hA := hA0.below hb1
    have hW := hW0.below hb1
    have hS := hS0.below hb1
    have hB1 := below_trans hB0 hb1
    obtain ⟨m0, m1, m2, m3, m4, m5⟩ := cells6 hM
    obtain ⟨a0, a1, a2, a3⟩ := cells4 hA
    clear hM0 hA0 hW0 hS0 hb1 hB0
    go_wp2_with fail
    refine (HC.out _).mono ?_
    rintro e w2 ⟨v, rfl, hown, hb2⟩
    obtain ⟨la, lc, rfl, hx⟩ := id (ints_at_row hown)
    clear hx
    have HI := Lib.hid (ints_at_row hown)
    have HM := Lib.hid (hM.below hb2)
    have HW := Lib.hid (hW.below hb2)
    have hS := hS.below hb2
    have hB2 := below_trans hB1 hb2
    obtain ⟨s0, s1, s2⟩ := cells3 hS
    have HS2 := Lib.hid hS
    clear hown hM hA hW hS m0 m1 m2 m3 m4 m5 a0 a1 a2 a3 hB1 hb2
    go_wp2_with fail
    go_loopw [12, 39] (fun b i wr => ∃ (k : Nat) (bf : Int), k ≤ ps.length ∧ i = .int .i64 k ∧ b = .int .i64 bf ∧ Hid (argBad L (-1) ps = argBad L bf (ps.drop k)) ∧ Below w2.heap.size w2 wr) (fun _ i _ => ps.length - (intOf i).toNat)
    case atStart => exact ⟨0, -1, Nat.zero_le _, rfl, rfl, rfl, Below.refl _ _⟩
    case round =>
      obtain ⟨k, bf, hk, rfl, rfl, HB, hB⟩ := hrel
      have hBw := below_trans hB2 hB
      by_cases hlt : k < ps.length
      · obtain ⟨a', c', hac, h0 | ⟨b, off, rfl, hb, hc⟩⟩ := HSV.out.below hBw
        · omega
        simp only [Value.slice.injEq] at hac
        obtain ⟨rfl, _, rfl⟩ := hac
        have hck := hc (k * 2) (by omega)
        have hck1 := hc (k * 2 + 1) (by omega)
        rw [spanF_even ps k hlt] at hck
        rw [spanF_odd ps k hlt, ← Nat.add_assoc] at hck1
        have HD := Lib.hid (argBad_drop L bf ps k hlt)
        have HBS := Lib.hid (fun W (h : IntsAt W (.slice la L.length lc) L) => bs_any _ L ps[k].1 W h HK.out.asc (by omega))
        generalize ps[k].1 = q1 at *
        generalize ps[k].2 = q2 at *
        generalize L.contains q1 = cb at *
        have hNB := cellsNew wr #[.int .i64 q1, .int .i64 q2] 121
        have hB3 : Below w2.heap.size w2 (wr.alloc (.cells #[.int .i64 q1, .int .i64 q2] 121)) := balloc hB _
        have HI3 := Lib.hid (HI.out.below hB3)
        have i1 : (0 : Int) ≤ (k : Int) := by omega
        have i2 : (k : Int) < (ps.length : Int) := by omega
        clear hc
        go_wp2_with fail
        refine (HBS.out _ HI3.out).mono ?_
        rintro e w4 ⟨n4, rfl, hb4⟩
        have hNB := hNB.below hb4
        obtain ⟨p0, p1⟩ := cells2 hNB
        have hB4 := below_trans hB3 hb4
        clear hck hck1 HBS
        cases cb with
        | false =>
          go_wp2_with fail
          go_ret2
          exact HBAD.out 2 _ (HP2.out (by rw [HB.out, HD.out]; rfl)) (by omega) (below_trans hB2 hB4)
        | true =>
          by_cases hle : q1 ≤ bf
          · go_wp2_with fail
            go_ret2
            exact HBAD.out 2 _ (HP2.out (by rw [HB.out, HD.out]; simp [hle])) (by omega) (below_trans hB2 hB4)
          · have hle' : decide (q1 ≤ bf) = false := by simpa using hle
            have HD2 : Hid (argBad L bf (ps.drop k) = argBad L q1 (ps.drop (k + 1))) := show _ = _ from by rw [HD.out, hle']; simp
            clear HD
            go_wp2_with fail
            go_roundw
            case rel => exact ⟨k + 1, q1, by omega, by go_num, rfl, by show _ = _; rw [HB.out, HD2.out], hB4⟩
            case measure => simp [intOf]; omega
      · obtain rfl : k = ps.length := by omega
        have hab : argBad L (-1) ps = false := by rw [HB.out]; simp [argBad]
        have HAB := Lib.hid hab
        have hpl4 : ps.length ≤ 400 := by
          obtain ⟨g1, g2⟩ := (argBad_false ps (-1)).1 hab
          have hn : (ps.map Prod.fst).Nodup := by unfold List.Nodup; rw [List.pairwise_map]; exact g2.imp (fun h => by omega)
          have := nodup_len (L' := L) hn (fun c hc => by obtain ⟨p, hp, rfl⟩ := List.mem_map.1 hc; exact (g1 p hp).1)
          rw [List.length_map] at this
          omega
        have hPOK : Hid (∀ p ∈ ps, p.1 ∈ L) := show ∀ _ _, _ from fun p hp => (((argBad_false ps (-1)).1 hab).1 p hp).1
        clear hab HB HP2
        have hS3 := HS2.out.below hB
        obtain ⟨s0', s1', s2'⟩ := cells3 hS3
        have HS3 := Lib.hid hS3
        have HM3 := Lib.hid (HM.out.below hB)
        have HW3 := Lib.hid (HW.out.below hB)
        have HI3 := Lib.hid (HI.out.below hB)
        clear hS3 hB HS2 HM HW HI s0 s1 s2 hB2
        cases ho1 : outB out 0 1000000 with
        | true =>
          have HO : Hid (outBad more out price = true) := show _ = _ from by unfold outBad; rw [ho1]; rfl
          go_wp2_with (go_at_call 64; refine (out_any _ _ _ _).mono ?_; rintro e w' ⟨rfl, rfl⟩)
          go_ret2
          exact HBAD.out 2 _ (HP3.out HAB.out HO.out) (by omega) hBw
        | false =>
          by_cases h0 : 0 < out
          · cases more with
            | false =>
              have HO : Hid (outBad false out price = true) := show _ = _ from by unfold outBad; simp [h0]
              go_wp2_with (go_at_call 64; refine (out_any _ _ _ _).mono ?_; rintro e w' ⟨rfl, rfl⟩)
              go_ret2
              exact HBAD.out 2 _ (HP3.out HAB.out HO.out) (by omega) hBw
            | true =>
              cases ho3 : outB price 0 1000000 with
              | true =>
                have HO : Hid (outBad true out price = true) := show _ = _ from by unfold outBad; rw [ho3]; simp
                go_wp2_with (go_at_call 64; refine (out_any _ _ _ _).mono ?_; rintro e w' ⟨rfl, rfl⟩)
                go_ret2
                exact HBAD.out 2 _ (HP3.out HAB.out HO.out) (by omega) hBw
              | false =>
                have HO : Hid (outBad true out price = false) := show _ = _ from (by unfold outBad; rw [ho1, ho3]; simp)
                obtain ⟨b1, b2⟩ := outB_false.1 ho1
                obtain ⟨c1, c2⟩ := outB_false.1 ho3
                clear HP3
                go_wp2_with (go_at_call 64; refine (out_any _ _ _ _).mono ?_; rintro e w' ⟨rfl, rfl⟩)
                obtain ⟨wa, rfl⟩ : ∃ wa : World, wa = wr := ⟨_, rfl⟩
                go_loopw [17, 83] (fun sm i wr => ∃ (k : Nat) (s : Int), k ≤ ps.length ∧ i = .int .i64 k ∧ sm = .int .i64 s ∧ 0 ≤ s ∧ s ≤ 1000000 + k * 1000000 ∧ Hid (s = out + sumN (ps.take k)) ∧ Hid (capBad cap ps = capBad cap (ps.drop k)) ∧ Below wa.heap.size wa wr) (fun _ i _ => ps.length - (intOf i).toNat)
                case atStart => exact ⟨0, out, Nat.zero_le _, rfl, rfl, b1, by omega, by show _ = _; simp [sumN], rfl, Below.refl _ _⟩
                case round =>
                  obtain ⟨k, s, hk, rfl, rfl, hs0, hs1, HSM, HCB, hB⟩ := hrel
                  have hBw2 := below_trans hBw hB
                  obtain ⟨l0, l1⟩ := cells2 (HW3.out.below hB)
                  have hl2 : w.heap.size + 1 + 1 < wr.heap.size := World.block_lt_of_cell? _ _ l1
                  by_cases hlt : k < ps.length
                  · obtain ⟨a', c', hac, h0 | ⟨b, off, rfl, hb, hc⟩⟩ := HSV.out.below hBw2
                    · omega
                    simp only [Value.slice.injEq] at hac
                    obtain ⟨rfl, _, rfl⟩ := hac
                    have hck := hc (k * 2) (by omega)
                    have hck1 := hc (k * 2 + 1) (by omega)
                    rw [spanF_even ps k hlt] at hck
                    rw [spanF_odd ps k hlt, ← Nat.add_assoc] at hck1
                    have HD := Lib.hid (capBad_drop cap ps k hlt)
                    have HSN := Lib.hid (sumN_take ps k hlt)
                    generalize ps[k].1 = q1 at *
                    generalize ps[k].2 = q2 at *
                    have i1 : (0 : Int) ≤ (k : Int) := by omega
                    have i2 : (k : Int) < (ps.length : Int) := by omega
                    clear hc
                    cases hq : outB q2 1 cap with
                    | true =>
                      have HQ := Lib.hid hq
                      go_wp2_with (go_at_call 64; refine (out_any _ _ _ _).mono ?_; rintro e w' ⟨rfl, rfl⟩)
                      go_ret2
                      exact HBAD.out 140 _ (HP4.out HAB.out HO.out (by rw [HCB.out, HD.out, HQ.out]; rfl)) (by omega) (below_trans hBw (balloc hB _))
                    | false =>
                      have HQ := Lib.hid hq
                      obtain ⟨q20, q21⟩ := outB_false.1 hq
                      go_wp2_with (go_at_call 64; refine (out_any _ _ _ _).mono ?_; rintro e w' ⟨rfl, rfl⟩)
                      go_roundw
                      case rel => exact ⟨k + 1, s + q2, by omega, by go_num, rfl, by omega, by omega, by show _ = _; rw [HSN.out, HSM.out]; omega, by show _ = _; rw [HCB.out, HD.out, HQ.out]; rfl, balloc hB _⟩
                      case measure => simp [intOf]; omega
                  · obtain rfl : k = ps.length := by omega
                    have hcb : capBad cap ps = false := by rw [HCB.out]; simp [capBad]
                    have HCB2 := Lib.hid hcb
                    rw [List.take_length] at HSM
                    have hPA : PartsOK zs ps := fun p hp => by
                      have h1 := HK.out.r p.1 (hPOK.out p hp)
                      have h2 := capBad_false.1 hcb p hp
                      exact ⟨h1.1, h1.2, by omega, by omega⟩
                    have HPA := Lib.hid hPA
                    have HZ := Lib.hid HK.out.z
                    have HR := Lib.hid HK.out.r
                    have hn4 : zs.length ≤ 400 := HK.out.n4
                    have hS3 := HS3.out.below hB
                    obtain ⟨s0, s1, s2⟩ := cells3 hS3
                    have HS4 := Lib.hid hS3
                    have HM4 := Lib.hid (HM3.out.below hB)
                    have HW4 := Lib.hid (HW3.out.below hB)
                    have HI4 := Lib.hid (HI3.out.below hB)
                    clear hcb hPA hPOK hS3 hB HCB HP4 HS3 HM3 HW3 HI3 s0' s1' s2' hBw l0 l1
                    by_cases hsum : s = 1000000
                    · subst hsum
                      have HSUM : Hid (out + sumN ps = 1000000) := show _ = _ from HSM.out.symm
                      clear HSM HP5
                      have p0 := IntWalk.i64_in (1000000 * price) ⟨by omega, by omega⟩
                      go_wp2_with fail
                      clear p0
                      obtain ⟨wb, rfl⟩ : ∃ wb : World, wb = wr := ⟨_, rfl⟩
                      go_loopw [20, 104] (fun bs i wr => ∃ (k : Nat) (acc : Int), k ≤ L.length ∧ i = .int .i64 k ∧ bs = .int .i64 acc ∧ 0 ≤ acc ∧ acc ≤ 1000000000000 + k * 1000000000000 ∧ Hid (acc = 1000000 * price + sumF (fun c => cap * max 0 (zc zs c - price)) (L.take k)) ∧ Below wb.heap.size wb wr) (fun _ i _ => L.length - (intOf i).toNat)
                      case atStart => exact ⟨0, 1000000 * price, Nat.zero_le _, rfl, rfl, by omega, by omega, by show _ = _; simp [sumF], Below.refl _ _⟩
                      case round =>
                        obtain ⟨k, acc, hk, rfl, rfl, ha0, ha1, HAC, hB⟩ := hrel
                        obtain ⟨l0, l1⟩ := cells2 (HW4.out.below hB)
                        obtain ⟨m0, m1, m2, m3, m4, m5⟩ := cells6 (HM4.out.below hB)
                        obtain ⟨s0, s1, s2⟩ := cells3 (HS4.out.below hB)
                        have hBw3 := below_trans hBw2 hB
                        by_cases hlt : k < L.length
                        · obtain ⟨a', c', hac, h0 | ⟨b, off, rfl, hb, hc⟩⟩ := HI4.out.below hB
                          · omega
                          simp only [Value.slice.injEq] at hac
                          obtain ⟨rfl, _, rfl⟩ := hac
                          have hx := HR.out L[k] (List.getElem_mem hlt)
                          have e0 := hc k (by omega)
                          have HTT : Hid (1000000 * price + sumF (fun c => cap * max 0 (zc zs c - price)) (L.take (k + 1)) = acc + cap * max 0 (zc zs L[k] - price)) := show _ = _ from by
                            rw [List.take_succ_eq_append_getElem hlt, sumF_snoc, HAC.out]; omega
                          have e1 : wr.cell? ⟨b, off + k, none⟩ = some (.int .i64 L[k]) := by
                            unfold intF at e0
                            simpa [hlt] using e0
                          obtain ⟨a5, c5, hac, h0 | ⟨b5, off5, rfl, hb5, hc5⟩⟩ := HV.out.below hBw3
                          · omega
                          simp only [Value.slice.injEq] at hac
                          obtain ⟨rfl, _, rfl⟩ := hac
                          have e3 := hc5 L[k].toNat (by omega)
                          unfold intF at e3
                          rw [← List.getD_eq_getElem?_getD] at e3
                          have hzb := zc_bd HZ.out L[k]
                          change _ = some (Value.int .i64 (zc zs L[k])) at e3
                          generalize zc zs L[k] = z at *
                          generalize L[k] = x at *
                          obtain ⟨x0, x1⟩ := hx
                          obtain ⟨z0, z1⟩ := hzb
                          have i1 : (0 : Int) ≤ (k : Int) := by omega
                          have i2 : (k : Int) < (L.length : Int) := by omega
                          clear hc hc5 e0
                          have o1 := IntWalk.i64_in (z - price) ⟨by omega, by omega⟩
                          have hm0 : 0 ≤ max 0 (z - price) ∧ max 0 (z - price) ≤ 1000000 := by omega
                          obtain ⟨r1, r2⟩ := mul_bd cap (max 0 (z - price)) 1000000 1000000 (by omega) v10 hm0.1 hm0.2
                          have o2 := IntWalk.i64_in (cap * max 0 (z - price)) ⟨by omega, by omega⟩
                          have o3 := IntWalk.i64_in (acc + cap * max 0 (z - price)) ⟨by omega, by omega⟩
                          go_wp2_with fail
                          go_quiet (fail)
                          clear o1 o2 o3
                          go_wp2_with fail
                          go_roundw
                          case rel => exact ⟨k + 1, acc + cap * max 0 (z - price), by omega, by go_num, rfl, by omega, by omega, by show _ = _; rw [HTT.out], below_drewN' hB _⟩
                          case measure => simp [intOf]; omega
                        · obtain rfl : k = L.length := by omega
                          rw [List.take_length] at HAC
                          have HBN : Hid (acc = bnd zs cap L price) := show _ = _ from HAC.out
                          have HPE := Lib.hid (fun W (h : IntsAt W (.slice pa zs.length pc) zs) (h2 : SpansAt W (.slice sa ps.length sc) ps) => people_any cx cy size cols rows _ _ out price zs ps W h h2 HZ.out HPA.out (by omega))
                          have HIV := Lib.hid (HV.out.below hBw3)
                          have HIS := Lib.hid (HSV.out.below hBw3)
                          clear HAC
                          go_wp2_with fail
                          refine (HPE.out _ HIV.out HIS.out).mono ?_
                          rintro e w9 ⟨rfl, hb9⟩
                          have hBw4 := below_trans hBw3 hb9
                          by_cases hpb : ppl zs ps = acc
                          · have HOK2 : Hid (PE = 0) := show _ = _ from HP7.out HAB.out HO.out HCB2.out HSUM.out (by rw [hpb]; exact HBN.out)
                            have HE2 := Lib.hid (HOKK.out)
                            clear HOKK
                            rw [hpb] at HE2 ⊢
                            go_wp2_with fail
                            go_ret2
                            exact HE2.out _ HOK2.out hBw4
                          · have hpb' : (ppl zs ps != acc) = true := by simpa using hpb
                            have HBD2 : Hid (PE = 142) := show _ = _ from HP6.out HAB.out HO.out HCB2.out HSUM.out (by rw [← HBN.out]; exact hpb)
                            clear hpb
                            go_wp2_with fail
                            go_ret2
                            exact HBAD.out 142 _ HBD2.out (by omega) hBw4
                    · have hs' : (s != 1000000) = true := by simpa using hsum
                      have HN : Hid (¬ out + sumN ps = 1000000) := show ¬ _ from by rw [← HSM.out]; exact hsum
                      clear hsum HSM
                      go_wp2_with fail
                      go_ret2
                      exact HBAD.out 141 _ (HP5.out HAB.out HO.out HCB2.out HN.out) (by omega) hBw2
          · have h0' : decide (0 < out) = false := by simpa using h0
            cases ho3 : outB price 0 1000000 with
            | true =>
              have HO : Hid (outBad more out price = true) := show _ = _ from by unfold outBad; rw [ho3]; simp
              go_wp2_with (go_at_call 64; refine (out_any _ _ _ _).mono ?_; rintro e w' ⟨rfl, rfl⟩)
              go_ret2
              exact HBAD.out 2 _ (HP3.out HAB.out HO.out) (by omega) hBw
            | false =>
              have HO : Hid (outBad more out price = false) := show _ = _ from (by unfold outBad; rw [ho1, ho3, h0']; simp)
              obtain ⟨b1, b2⟩ := outB_false.1 ho1
              obtain ⟨c1, c2⟩ := outB_false.1 ho3
              clear HP3
              go_wp2_with (go_at_call 64; refine (out_any _ _ _ _).mono ?_; rintro e w' ⟨rfl, rfl⟩)
              obtain ⟨wa, rfl⟩ : ∃ wa : World, wa = wr := ⟨_, rfl⟩
              go_loopw [17, 83] (fun sm i wr => ∃ (k : Nat) (s : Int), k ≤ ps.length ∧ i = .int .i64 k ∧ sm = .int .i64 s ∧ 0 ≤ s ∧ s ≤ 1000000 + k * 1000000 ∧ Hid (s = out + sumN (ps.take k)) ∧ Hid (capBad cap ps = capBad cap (ps.drop k)) ∧ Below wa.heap.size wa wr) (fun _ i _ => ps.length - (intOf i).toNat)
              case atStart => exact ⟨0, out, Nat.zero_le _, rfl, rfl, b1, by omega, by show _ = _; simp [sumN], rfl, Below.refl _ _⟩
              case round =>
                obtain ⟨k, s, hk, rfl, rfl, hs0, hs1, HSM, HCB, hB⟩ := hrel
                have hBw2 := below_trans hBw hB
                obtain ⟨l0, l1⟩ := cells2 (HW3.out.below hB)
                have hl2 : w.heap.size + 1 + 1 < wr.heap.size := World.block_lt_of_cell? _ _ l1
                by_cases hlt : k < ps.length
                · obtain ⟨a', c', hac, h0 | ⟨b, off, rfl, hb, hc⟩⟩ := HSV.out.below hBw2
                  · omega
                  simp only [Value.slice.injEq] at hac
                  obtain ⟨rfl, _, rfl⟩ := hac
                  have hck := hc (k * 2) (by omega)
                  have hck1 := hc (k * 2 + 1) (by omega)
                  rw [spanF_even ps k hlt] at hck
                  rw [spanF_odd ps k hlt, ← Nat.add_assoc] at hck1
                  have HD := Lib.hid (capBad_drop cap ps k hlt)
                  have HSN := Lib.hid (sumN_take ps k hlt)
                  generalize ps[k].1 = q1 at *
                  generalize ps[k].2 = q2 at *
                  have i1 : (0 : Int) ≤ (k : Int) := by omega
                  have i2 : (k : Int) < (ps.length : Int) := by omega
                  clear hc
                  cases hq : outB q2 1 cap with
                  | true =>
                    have HQ := Lib.hid hq
                    go_wp2_with (go_at_call 64; refine (out_any _ _ _ _).mono ?_; rintro e w' ⟨rfl, rfl⟩)
                    go_ret2
                    exact HBAD.out 140 _ (HP4.out HAB.out HO.out (by rw [HCB.out, HD.out, HQ.out]; rfl)) (by omega) (below_trans hBw (balloc hB _))
                  | false =>
                    have HQ := Lib.hid hq
                    obtain ⟨q20, q21⟩ := outB_false.1 hq
                    go_wp2_with (go_at_call 64; refine (out_any _ _ _ _).mono ?_; rintro e w' ⟨rfl, rfl⟩)
                    go_roundw
                    case rel => exact ⟨k + 1, s + q2, by omega, by go_num, rfl, by omega, by omega, by show _ = _; rw [HSN.out, HSM.out]; omega, by show _ = _; rw [HCB.out, HD.out, HQ.out]; rfl, balloc hB _⟩
                    case measure => simp [intOf]; omega
                · obtain rfl : k = ps.length := by omega
                  have hcb : capBad cap ps = false := by rw [HCB.out]; simp [capBad]
                  have HCB2 := Lib.hid hcb
                  rw [List.take_length] at HSM
                  have hPA : PartsOK zs ps := fun p hp => by
                    have h1 := HK.out.r p.1 (hPOK.out p hp)
                    have h2 := capBad_false.1 hcb p hp
                    exact ⟨h1.1, h1.2, by omega, by omega⟩
                  have HPA := Lib.hid hPA
                  have HZ := Lib.hid HK.out.z
                  have HR := Lib.hid HK.out.r
                  have hn4 : zs.length ≤ 400 := HK.out.n4
                  have hS3 := HS3.out.below hB
                  obtain ⟨s0, s1, s2⟩ := cells3 hS3
                  have HS4 := Lib.hid hS3
                  have HM4 := Lib.hid (HM3.out.below hB)
                  have HW4 := Lib.hid (HW3.out.below hB)
                  have HI4 := Lib.hid (HI3.out.below hB)
                  clear hcb hPA hPOK hS3 hB HCB HP4 HS3 HM3 HW3 HI3 s0' s1' s2' hBw l0 l1
                  by_cases hsum : s = 1000000
                  · subst hsum
                    have HSUM : Hid (out + sumN ps = 1000000) := show _ = _ from HSM.out.symm
                    clear HSM HP5
                    have p0 := IntWalk.i64_in (1000000 * price) ⟨by omega, by omega⟩
                    go_wp2_with fail
                    clear p0
                    obtain ⟨wb, rfl⟩ : ∃ wb : World, wb = wr := ⟨_, rfl⟩
                    go_loopw [20, 104] (fun bs i wr => ∃ (k : Nat) (acc : Int), k ≤ L.length ∧ i = .int .i64 k ∧ bs = .int .i64 acc ∧ 0 ≤ acc ∧ acc ≤ 1000000000000 + k * 1000000000000 ∧ Hid (acc = 1000000 * price + sumF (fun c => cap * max 0 (zc zs c - price)) (L.take k)) ∧ Below wb.heap.size wb wr) (fun _ i _ => L.length - (intOf i).toNat)
                    case atStart => exact ⟨0, 1000000 * price, Nat.zero_le _, rfl, rfl, by omega, by omega, by show _ = _; simp [sumF], Below.refl _ _⟩
                    case round =>
                      obtain ⟨k, acc, hk, rfl, rfl, ha0, ha1, HAC, hB⟩ := hrel
                      obtain ⟨l0, l1⟩ := cells2 (HW4.out.below hB)
                      obtain ⟨m0, m1, m2, m3, m4, m5⟩ := cells6 (HM4.out.below hB)
                      obtain ⟨s0, s1, s2⟩ := cells3 (HS4.out.below hB)
                      have hBw3 := below_trans hBw2 hB
                      by_cases hlt : k < L.length
                      · obtain ⟨a', c', hac, h0 | ⟨b, off, rfl, hb, hc⟩⟩ := HI4.out.below hB
                        · omega
                        simp only [Value.slice.injEq] at hac
                        obtain ⟨rfl, _, rfl⟩ := hac
                        have hx := HR.out L[k] (List.getElem_mem hlt)
                        have e0 := hc k (by omega)
                        have HTT : Hid (1000000 * price + sumF (fun c => cap * max 0 (zc zs c - price)) (L.take (k + 1)) = acc + cap * max 0 (zc zs L[k] - price)) := show _ = _ from by
                          rw [List.take_succ_eq_append_getElem hlt, sumF_snoc, HAC.out]; omega
                        have e1 : wr.cell? ⟨b, off + k, none⟩ = some (.int .i64 L[k]) := by
                          unfold intF at e0
                          simpa [hlt] using e0
                        obtain ⟨a5, c5, hac, h0 | ⟨b5, off5, rfl, hb5, hc5⟩⟩ := HV.out.below hBw3
                        · omega
                        simp only [Value.slice.injEq] at hac
                        obtain ⟨rfl, _, rfl⟩ := hac
                        have e3 := hc5 L[k].toNat (by omega)
                        unfold intF at e3
                        rw [← List.getD_eq_getElem?_getD] at e3
                        have hzb := zc_bd HZ.out L[k]
                        change _ = some (Value.int .i64 (zc zs L[k])) at e3
                        generalize zc zs L[k] = z at *
                        generalize L[k] = x at *
                        obtain ⟨x0, x1⟩ := hx
                        obtain ⟨z0, z1⟩ := hzb
                        have i1 : (0 : Int) ≤ (k : Int) := by omega
                        have i2 : (k : Int) < (L.length : Int) := by omega
                        clear hc hc5 e0
                        have o1 := IntWalk.i64_in (z - price) ⟨by omega, by omega⟩
                        have hm0 : 0 ≤ max 0 (z - price) ∧ max 0 (z - price) ≤ 1000000 := by omega
                        obtain ⟨r1, r2⟩ := mul_bd cap (max 0 (z - price)) 1000000 1000000 (by omega) v10 hm0.1 hm0.2
                        have o2 := IntWalk.i64_in (cap * max 0 (z - price)) ⟨by omega, by omega⟩
                        have o3 := IntWalk.i64_in (acc + cap * max 0 (z - price)) ⟨by omega, by omega⟩
                        go_wp2_with fail
                        go_quiet (fail)
                        clear o1 o2 o3
                        go_wp2_with fail
                        go_roundw
                        case rel => exact ⟨k + 1, acc + cap * max 0 (z - price), by omega, by go_num, rfl, by omega, by omega, by show _ = _; rw [HTT.out], below_drewN' hB _⟩
                        case measure => simp [intOf]; omega
                      · obtain rfl : k = L.length := by omega
                        rw [List.take_length] at HAC
                        have HBN : Hid (acc = bnd zs cap L price) := show _ = _ from HAC.out
                        have HPE := Lib.hid (fun W (h : IntsAt W (.slice pa zs.length pc) zs) (h2 : SpansAt W (.slice sa ps.length sc) ps) => people_any cx cy size cols rows _ _ out price zs ps W h h2 HZ.out HPA.out (by omega))
                        have HIV := Lib.hid (HV.out.below hBw3)
                        have HIS := Lib.hid (HSV.out.below hBw3)
                        clear HAC
                        go_wp2_with fail
                        refine (HPE.out _ HIV.out HIS.out).mono ?_
                        rintro e w9 ⟨rfl, hb9⟩
                        have hBw4 := below_trans hBw3 hb9
                        by_cases hpb : ppl zs ps = acc
                        · have HOK2 : Hid (PE = 0) := show _ = _ from HP7.out HAB.out HO.out HCB2.out HSUM.out (by rw [hpb]; exact HBN.out)
                          have HE2 := Lib.hid (HOKK.out)
                          clear HOKK
                          rw [hpb] at HE2 ⊢
                          go_wp2_with fail
                          go_ret2
                          exact HE2.out _ HOK2.out hBw4
                        · have hpb' : (ppl zs ps != acc) = true := by simpa using hpb
                          have HBD2 : Hid (PE = 142) := show _ = _ from HP6.out HAB.out HO.out HCB2.out HSUM.out (by rw [← HBN.out]; exact hpb)
                          clear hpb
                          go_wp2_with fail
                          go_ret2
                          exact HBAD.out 142 _ HBD2.out (by omega) hBw4
                  · have hs' : (s != 1000000) = true := by simpa using hsum
                    have HN : Hid (¬ out + sumN ps = 1000000) := show ¬ _ from by rw [← HSM.out]; exact hsum
                    clear hsum HSM
                    go_wp2_with fail
                    go_ret2
                    exact HBAD.out 141 _ (HP5.out HAB.out HO.out HCB2.out HN.out) (by omega) hBw2
  · have hak : (askE cx cy size cols rows zs xl xh yl yh lethal cap != 0) = true := by simpa using hask
    have HE : Hid (prvE zs (askE cx cy size cols rows zs xl xh yl yh lethal cap) cap (cellsL cx cy size cols rows xl xh yl yh) (cellsM cx cy size cols rows xl xh yl yh) ps out price = askE cx cy size cols rows zs xl xh yl yh lethal cap) := show _ = _ from by unfold prvE; rw [if_pos hask]
    have HN := Lib.hid hask
    clear hask hv hs
    generalize askE cx cy size cols rows zs xl xh yl yh lethal cap = ak at *
    go_enter Tryz.func52, Tryz.ntmps52
    go_wp2_with fail
    obtain ⟨hM0, hA0, hW0, hS0, hz0, hB0⟩ := alloc4 w #[.int .i64 cx, .int .i64 cy, .int .i64 size, .int .i64 cols, .int .i64 rows, .slice pa zs.length pc] #[.int .i64 xl, .int .i64 xh, .int .i64 yl, .int .i64 yh] #[.int .i64 lethal, .int .i64 cap] #[.slice sa ps.length sc, .int .i64 out, .int .i64 price] 42 25 44 47
    generalize (((w.alloc (.cells #[.int .i64 cx, .int .i64 cy, .int .i64 size, .int .i64 cols, .int .i64 rows, .slice pa zs.length pc] 42)).alloc (.cells #[.int .i64 xl, .int .i64 xh, .int .i64 yl, .int .i64 yh] 25)).alloc (.cells #[.int .i64 lethal, .int .i64 cap] 44)).alloc (.cells #[.slice sa ps.length sc, .int .i64 out, .int .i64 price] 47) = W0 at *
    clear hz0
    refine (HA.out W0 (HV.out.below hB0)).mono ?_
    rintro e w1 ⟨rfl, hb1⟩
    have hB1 := below_trans hB0 hb1
    go_wp2_with fail
    go_ret2
    exact ⟨numErr_bad HE.out HN.out, hB1⟩
end Go.Proofs.YtmglbegbijofkaaGreatDoor
namespace Go.Proofs.YtmglbegbijofkaaGreatDoor
open Go.RowKit Go.Shelf Go.Sort
/-- the error and the people of one impact by its law -/
def rkE (cx cy size cols rows : Int) (zs : List Int) (p : Impact × (Int × Int)) : Int := if strangeI p.1 then 7 else mE cx cy size cols rows zs p.1.xl p.1.xh p.1.yl p.1.yh p.2.1 p.2.2
def rkN (cx cy size cols rows : Int) (zs : List Int) (p : Impact × (Int × Int)) : Int := mN cx cy size cols rows zs p.1.xl p.1.xh p.1.yl p.1.yh p.2.1 p.2.2 * p.2.1
def riskE (cx cy size cols rows : Int) (zs : List Int) (l : List Impact) (ws : List (Int × Int)) : Int :=
  if chkE cx cy size cols rows zs ≠ 0 then chkE cx cy size cols rows zs else if 12 < l.length then 3 else if l.length ≠ ws.length then 2 else rkErr (rkE cx cy size cols rows zs) (l.zip ws)
def riskN (cx cy size cols rows : Int) (zs : List Int) (l : List Impact) (ws : List (Int × Int)) : Int := if riskE cx cy size cols rows zs l ws = 0 then rkSum (rkN cx cy size cols rows zs) (l.zip ws) else 0
def riskD (cx cy size cols rows : Int) (zs : List Int) (l : List Impact) (ws : List (Int × Int)) : Int := if riskE cx cy size cols rows zs l ws = 0 then 1000000 * size * size else 0
theorem rk_ok {cx cy size cols rows : Int} {zs : List Int} {p : Impact × (Int × Int)} (h : rkE cx cy size cols rows zs p = 0) : strangeI p.1 = false ∧ mE cx cy size cols rows zs p.1.xl p.1.xh p.1.yl p.1.yh p.2.1 p.2.2 = 0 ∧ 0 ≤ p.2.1 ∧ p.2.1 ≤ 10000 := by
  unfold rkE at h
  cases hs : strangeI p.1 with
  | true => rw [hs] at h; simp at h
  | false =>
    rw [hs] at h
    simp only [Bool.false_eq_true, if_false] at h
    have := outB_false.1 (mE_ok h).leth
    exact ⟨rfl, h, this⟩
theorem rk_bd {cx cy size cols rows : Int} {zs : List Int} {p : Impact × (Int × Int)} (h : rkE cx cy size cols rows zs p = 0) : 0 ≤ rkN cx cy size cols rows zs p ∧ rkN cx cy size cols rows zs p ≤ 10000000000000000 := by
  obtain ⟨_, _, h1, h2⟩ := rk_ok h
  obtain ⟨h3, h4⟩ := mN_bd cx cy size cols rows zs p.1.xl p.1.xh p.1.yl p.1.yh p.2.1 p.2.2
  unfold rkN
  have b1 := Int.mul_nonneg h3 h1
  have b2 := Int.mul_le_mul h4 h2 h1 (by omega : (0 : Int) ≤ 1000000000000)
  omega
/-- the two results of Risk -/
def RiskEnd (n d k : Int) (e : Ending) : Prop := e = .returned (.tuple #[.agg #[.int .i64 n, .int .i64 d], .int .i64 k])
theorem riskEnd_bad {cx cy size cols rows : Int} {zs : List Int} {l : List Impact} {ws : List (Int × Int)} {k : Int} (h : riskE cx cy size cols rows zs l ws = k) (hk : ¬ k = 0) : RiskEnd (riskN cx cy size cols rows zs l ws) (riskD cx cy size cols rows zs l ws) (riskE cx cy size cols rows zs l ws) (.returned (.tuple #[.agg #[.int .i64 0, .int .i64 0], .int .i64 k])) := by
  unfold RiskEnd riskN riskD
  rw [h, if_neg hk, if_neg hk]
end Go.Proofs.YtmglbegbijofkaaGreatDoor
namespace Go.Proofs.YtmglbegbijofkaaGreatDoor
open Go.RowKit Go.Shelf Go.Sort
end Go.Proofs.YtmglbegbijofkaaGreatDoor
