import Derived.Test.YtmglbegbijofkaaGreatDoorW33
set_option linter.unusedVariables false
set_option linter.unusedSimpArgs false
namespace Go.Proofs.YtmglbegbijofkaaGreatDoor
open Go.RowKit

theorem ints_at_row {w : World} {B : Nat} {v : Value} {l : List Int} (h : w.ownsRow B 3 1 v l.length (l.map (Value.int .i64))) : IntsAt w v l := by
  by_cases hl : l = []
  · subst hl
    obtain ⟨_, ⟨rfl, _⟩ | ⟨g, cap, cur, rfl, _⟩⟩ := h
    · exact ⟨_, _, rfl, .inl rfl⟩
    · exact ⟨_, _, rfl, .inl rfl⟩
  · have hp : 0 < l.length := List.length_pos_iff.2 hl
    obtain ⟨g, c, rfl, _, hg, hc⟩ := ints_of_row h hp
    exact ⟨_, _, rfl, .inr ⟨g, 0, rfl, hg, fun i hi => by rw [Nat.zero_add]; exact (hc i (by omega)).1⟩⟩
set_option maxRecDepth 100000 in
set_option maxHeartbeats 800000 in
theorem ints_same (va vb : Value) (l : List Int) (w : World) (ha : IntsAt w va l) (hb : IntsAt w vb l) (hn : l.length ≤ 1000000) : Calls Tryz.prog 38 #[va, vb] w fun e w' => e = .returned (.bool true) ∧ Below w.heap.size w w' := by
  obtain ⟨a1, c1, rfl, hr1⟩ := ha
  obtain ⟨a2, c2, rfl, hr2⟩ := hb
  go_enter Tryz.func38, Tryz.ntmps38
  go_wp2_with fail
  go_loopw [5] (fun i wr => ∃ k : Nat, k ≤ l.length ∧ i = .int .i64 k ∧ Below w.heap.size w wr) (fun i _ => l.length - (intOf i).toNat)
  case atStart => exact ⟨0, Nat.zero_le _, rfl, Below.refl _ _⟩
  case round =>
    obtain ⟨k, hk, rfl, hB⟩ := hrel
    by_cases hlt : k < l.length
    · rcases hr1 with h0 | ⟨b, off, rfl, hb, hc⟩
      · omega
      · rcases hr2 with h0 | ⟨b', off', rfl, hb', hc'⟩
        · omega
        · have e1 := (hB.cell (p := ⟨b, off + k, none⟩) hb).trans (hc k (by omega))
          have e2 := (hB.cell (p := ⟨b', off' + k, none⟩) hb').trans (hc' k (by omega))
          unfold intF at e1 e2
          generalize l[k]?.getD 0 = z at *
          have i1 : (0 : Int) ≤ (k : Int) := by omega
          have i2 : (k : Int) < (l.length : Int) := by omega
          clear hc hc'
          go_wp2_with fail
          go_quiet (fail)
          go_wp2_with fail
          go_roundw
          case rel => exact ⟨k + 1, by omega, by go_num, below_drewN' hB _⟩
          case measure => simp [intOf]; omega
    · obtain rfl : k = l.length := by omega
      go_wp2_with fail
      go_ret
      exact ⟨rfl, hB⟩

def clE (cx cy size cols rows : Int) (zs : List Int) (xl xh yl yh : Int) : Int := if chkE cx cy size cols rows zs ≠ 0 then chkE cx cy size cols rows zs else if wildB xl xh yl yh then 7 else 0
def clL (cx cy size cols rows : Int) (zs : List Int) (xl xh yl yh : Int) : List Int := if clE cx cy size cols rows zs xl xh yl yh = 0 then rowsL (stepsLo xl cx (1000 * size)) (stepsLo yl cy (1000 * size)) cols (stepsHi xh cx (1000 * size) cols - stepsLo xl cx (1000 * size) + 1).toNat (stepsHi yh cy (1000 * size) rows - stepsLo yl cy (1000 * size) + 1).toNat else []
def clM (cx cy size cols rows : Int) (zs : List Int) (xl xh yl yh : Int) : Bool := if clE cx cy size cols rows zs xl xh yl yh = 0 then (stepsMo xl xh cx (1000 * size) cols || stepsMo yl yh cy (1000 * size) rows) else false
/-- what Cells leaves -/
def ClPost (w : World) (l : List Int) (mo : Bool) (k : Int) (e : Ending) (w' : World) : Prop :=
  ∃ v, e = .returned (.tuple #[v, .bool mo, .int .i64 k]) ∧ w'.ownsRow w.heap.size 3 1 v l.length (l.map (Value.int .i64)) ∧ Below w.heap.size w w'
theorem clPost_bad {w w' : World} {cx cy size cols rows : Int} {zs : List Int} {xl xh yl yh k : Int} (h : clE cx cy size cols rows zs xl xh yl yh = k) (hk : ¬ k = 0) (hb : Below w.heap.size w w') :
    ClPost w (clL cx cy size cols rows zs xl xh yl yh) (clM cx cy size cols rows zs xl xh yl yh) (clE cx cy size cols rows zs xl xh yl yh) (.returned (.tuple #[.slice none 0 0, .bool false, .int .i64 k])) w' := by
  refine ⟨.slice none 0 0, ?_, ?_, hb⟩
  · unfold clM; rw [h, if_neg hk]
  · unfold clL; rw [h, if_neg hk]; simpa using World.ownsRow_nil _ _ _ _
theorem clPost_ok {w w' : World} {cx cy size cols rows : Int} {zs : List Int} {xl xh yl yh : Int} {v : Value} {l : List Int} {mo : Bool} (h : clE cx cy size cols rows zs xl xh yl yh = 0)
    (hl : l = rowsL (stepsLo xl cx (1000 * size)) (stepsLo yl cy (1000 * size)) cols (stepsHi xh cx (1000 * size) cols - stepsLo xl cx (1000 * size) + 1).toNat (stepsHi yh cy (1000 * size) rows - stepsLo yl cy (1000 * size) + 1).toNat)
    (hm : mo = (stepsMo xl xh cx (1000 * size) cols || stepsMo yl yh cy (1000 * size) rows)) (ho : w'.ownsRow w.heap.size 3 1 v l.length (l.map (Value.int .i64))) (hb : Below w.heap.size w w') :
    ClPost w (clL cx cy size cols rows zs xl xh yl yh) (clM cx cy size cols rows zs xl xh yl yh) (clE cx cy size cols rows zs xl xh yl yh) (.returned (.tuple #[v, .bool mo, .int .i64 0])) w' := by
  refine ⟨v, ?_, ?_, hb⟩
  · unfold clM; rw [h, if_pos rfl, hm]
  · unfold clL; rw [h, if_pos rfl, ← hl]; exact ho

set_option maxRecDepth 100000 in
set_option maxHeartbeats 800000 in
theorem Cells_any (cx cy size cols rows : Int) (pv : Value) (zs : List Int) (xl xh yl yh : Int) (w : World) (hv : IntsAt w pv zs) (hn : zs.length ≤ 9223372036854775806) :
    Calls Tryz.prog 27 #[.agg #[.int .i64 cx, .int .i64 cy, .int .i64 size, .int .i64 cols, .int .i64 rows, pv], .agg #[.int .i64 xl, .int .i64 xh, .int .i64 yl, .int .i64 yh]] w
      (ClPost w (clL cx cy size cols rows zs xl xh yl yh) (clM cx cy size cols rows zs xl xh yl yh) (clE cx cy size cols rows zs xl xh yl yh)) := by
  obtain ⟨a, c, rfl, hx⟩ := id hv
  clear hx
  have HV := Lib.hid hv
  clear hv
  have HC := Lib.hid (fun W (h : IntsAt W (.slice a zs.length c) zs) => check_any cx cy size cols rows _ zs W h hn)
  have HW := Lib.hid (fun W => wild_any xl xh yl yh W)
  unfold ErrTup at HC
  generalize chkPart cx cy size cols rows zs = A0 at *
  generalize chkAt cx cy size cols rows zs = A1 at *
  generalize hk : chkE cx cy size cols rows zs = k at *
  have HK := Lib.hid hk
  clear hk
  by_cases hk0 : k = 0
  · subst hk0
    obtain ⟨hmb, hzl, hix⟩ := chkE_zero HK.out
    have hbd := mapB_false.1 hmb
    obtain ⟨⟨g1, g2⟩, ⟨g3, g4⟩, ⟨g5, g6⟩, ⟨g7, g8⟩, ⟨g9, g10⟩⟩ := hbd
    clear hmb hzl hix
    cases hw : wildB xl xh yl yh with
    | true =>
      rw [hw] at HW
      have HE : Hid (clE cx cy size cols rows zs xl xh yl yh = 7) := show _ = _ from by unfold clE; rw [HK.out, hw]; simp
      clear hw
      go_enter Tryz.func27, Tryz.ntmps27
      go_wp2_with fail
      obtain ⟨hM, hA, hz, hB⟩ := alloc2 w #[.int .i64 cx, .int .i64 cy, .int .i64 size, .int .i64 cols, .int .i64 rows, .slice a zs.length c] #[.int .i64 xl, .int .i64 xh, .int .i64 yl, .int .i64 yh] 42 25
      clear hz
      generalize (w.alloc (.cells #[.int .i64 cx, .int .i64 cy, .int .i64 size, .int .i64 cols, .int .i64 rows, .slice a zs.length c] 42)).alloc (.cells #[.int .i64 xl, .int .i64 xh, .int .i64 yl, .int .i64 yh] 25) = W0 at *
      refine (HC.out _ (HV.out.below hB)).mono ?_
      rintro e w1 ⟨rfl, hb1⟩
      have hA := hA.below hb1
      have hB := below_trans hB hb1
      obtain ⟨a0, a1, a2, a3⟩ := cells4 hA
      go_wp2_with fail
      refine (HW.out _).mono ?_
      rintro e w2 ⟨rfl, hb2⟩
      have hB := below_trans hB hb2
      go_wp2_with fail
      go_ret3
      exact clPost_bad HE.out (by omega) hB
    | false =>
      rw [hw] at HW
      have HE : Hid (clE cx cy size cols rows zs xl xh yl yh = 0) := show _ = _ from by unfold clE; rw [HK.out, hw]; simp
      obtain ⟨⟨l1, l2, l3⟩, l4, l5, l6⟩ := wildB_false.1 hw
      clear hw
      have HCE := Lib.hid (fun W => cells_any cx cy size cols rows (.slice a zs.length c) xl xh yl yh W g1 g2 g3 g4 g5 g6 g7 g8 g9 g10 l1 l2 l4 l5 l3 l6)
      go_enter Tryz.func27, Tryz.ntmps27
      go_wp2_with fail
      obtain ⟨hM, hA, hz, hB⟩ := alloc2 w #[.int .i64 cx, .int .i64 cy, .int .i64 size, .int .i64 cols, .int .i64 rows, .slice a zs.length c] #[.int .i64 xl, .int .i64 xh, .int .i64 yl, .int .i64 yh] 42 25
      clear hz
      generalize (w.alloc (.cells #[.int .i64 cx, .int .i64 cy, .int .i64 size, .int .i64 cols, .int .i64 rows, .slice a zs.length c] 42)).alloc (.cells #[.int .i64 xl, .int .i64 xh, .int .i64 yl, .int .i64 yh] 25) = W0 at *
      refine (HC.out _ (HV.out.below hB)).mono ?_
      rintro e w1 ⟨rfl, hb1⟩
      have hA := hA.below hb1
      have hM := hM.below hb1
      have hB := below_trans hB hb1
      obtain ⟨a0, a1, a2, a3⟩ := cells4 hA
      go_wp2_with fail
      refine (HW.out _).mono ?_
      rintro e w2 ⟨rfl, hb2⟩
      clear a0 a1 a2 a3
      have hA := hA.below hb2
      have hM := hM.below hb2
      have hB := below_trans hB hb2
      obtain ⟨a0, a1, a2, a3⟩ := cells4 hA
      obtain ⟨m0, m1, m2, m3, m4, m5⟩ := cells6 hM
      go_wp2_with fail
      refine (HCE.out _).mono ?_
      rintro e w3 ⟨v, rfl, hown, hb3⟩
      have HO := Lib.hid (ownsRow_base hown hB.size)
      have hB3 := below_trans hB hb3
      clear hown hb3
      go_wp2_with fail
      go_ret3
      exact clPost_ok HE.out rfl rfl HO.out hB3
  · have hkb : (k != 0) = true := by simpa using hk0
    have HE : Hid (clE cx cy size cols rows zs xl xh yl yh = k) := show _ = _ from by unfold clE; rw [HK.out]; simp [hk0]
    have HK0 := Lib.hid hk0
    clear hk0
    go_enter Tryz.func27, Tryz.ntmps27
    go_wp2_with fail
    obtain ⟨hM, hA, hz, hB⟩ := alloc2 w #[.int .i64 cx, .int .i64 cy, .int .i64 size, .int .i64 cols, .int .i64 rows, .slice a zs.length c] #[.int .i64 xl, .int .i64 xh, .int .i64 yl, .int .i64 yh] 42 25
    clear hz
    generalize (w.alloc (.cells #[.int .i64 cx, .int .i64 cy, .int .i64 size, .int .i64 cols, .int .i64 rows, .slice a zs.length c] 42)).alloc (.cells #[.int .i64 xl, .int .i64 xh, .int .i64 yl, .int .i64 yh] 25) = W0 at *
    refine (HC.out _ (HV.out.below hB)).mono ?_
    rintro e w1 ⟨rfl, hb1⟩
    have hB := below_trans hB hb1
    go_wp2_with fail
    go_ret3
    exact clPost_bad HE.out HK0.out hB

theorem flL_rows {cx cy size cols rows : Int} {zs : List Int} {xl xh yl yh : Int} (h5 : 1 ≤ size) (h7 : 1 ≤ cols) (h9 : 1 ≤ rows) (hz : (zs.length : Int) = cols * rows) :
    flL cx cy (1000 * size) cols xl xh yl yh zs.length = rowsL (stepsLo xl cx (1000 * size)) (stepsLo yl cy (1000 * size)) cols (stepsHi xh cx (1000 * size) cols - stepsLo xl cx (1000 * size) + 1).toNat (stepsHi yh cy (1000 * size) rows - stepsLo yl cy (1000 * size) + 1).toNat := by
  have h := flL_eq cx cy (1000 * size) xl xh yl yh cols.toNat rows.toNat (by omega) (by omega)
  have e1 : ((cols.toNat : Nat) : Int) = cols := by omega
  have e2 : ((rows.toNat : Nat) : Int) = rows := by omega
  have e3 : rows.toNat * cols.toNat = zs.length := by
    have : ((rows.toNat * cols.toNat : Nat) : Int) = (zs.length : Int) := by rw [Int.natCast_mul, e1, e2, hz, Int.mul_comm]
    omega
  rw [e1, e2, e3] at h
  exact h
set_option maxRecDepth 100000 in
set_option maxHeartbeats 800000 in
theorem RCells_any (cx cy size cols rows : Int) (pv : Value) (zs : List Int) (xl xh yl yh : Int) (w : World) (hv : IntsAt w pv zs) (hn : zs.length ≤ 9223372036854775806) :
    Calls Tryz.prog 37 #[.agg #[.int .i64 cx, .int .i64 cy, .int .i64 size, .int .i64 cols, .int .i64 rows, pv], .agg #[.int .i64 xl, .int .i64 xh, .int .i64 yl, .int .i64 yh]] w
      (ClPost w (clL cx cy size cols rows zs xl xh yl yh) (clM cx cy size cols rows zs xl xh yl yh) (clE cx cy size cols rows zs xl xh yl yh)) := by
  obtain ⟨a, c, rfl, hx⟩ := id hv
  clear hx
  have HV := Lib.hid hv
  clear hv
  have HC := Lib.hid (fun W (h : IntsAt W (.slice a zs.length c) zs) => rgood_any cx cy size cols rows _ zs W h hn)
  have HW := Lib.hid (fun W => rarea_any xl xh yl yh W)
  generalize hk : chkE cx cy size cols rows zs = k at *
  have HK := Lib.hid hk
  clear hk
  by_cases hk0 : k = 0
  · subst hk0
    obtain ⟨hmb, hzl, hix⟩ := chkE_zero HK.out
    have hbd := mapB_false.1 hmb
    obtain ⟨⟨g1, g2⟩, ⟨g3, g4⟩, ⟨g5, g6⟩, ⟨g7, g8⟩, ⟨g9, g10⟩⟩ := hbd
    have hz4 : zs.length ≤ 400 := by
      have p2 : cols * rows ≤ 400 := Int.le_trans (Int.mul_le_mul (c := 20) (d := 20) (by omega) (by omega) (by omega) (by omega)) (by omega)
      omega
    have HZL := Lib.hid hzl
    clear hmb hzl hix
    cases hw : wildB xl xh yl yh with
    | true =>
      simp only [hw, Bool.not_true] at HW
      have HE : Hid (clE cx cy size cols rows zs xl xh yl yh = 7) := show _ = _ from by unfold clE; rw [HK.out, hw]; simp
      clear hw
      go_enter Tryz.func37, Tryz.ntmps37
      go_wp2_with fail
      obtain ⟨hM, hA, hz, hB⟩ := alloc2 w #[.int .i64 cx, .int .i64 cy, .int .i64 size, .int .i64 cols, .int .i64 rows, .slice a zs.length c] #[.int .i64 xl, .int .i64 xh, .int .i64 yl, .int .i64 yh] 42 25
      clear hz
      generalize (w.alloc (.cells #[.int .i64 cx, .int .i64 cy, .int .i64 size, .int .i64 cols, .int .i64 rows, .slice a zs.length c] 42)).alloc (.cells #[.int .i64 xl, .int .i64 xh, .int .i64 yl, .int .i64 yh] 25) = W0 at *
      refine (HC.out _ (HV.out.below hB)).mono ?_
      rintro e w1 ⟨rfl, hb1⟩
      have hA := hA.below hb1
      have hB := below_trans hB hb1
      obtain ⟨a0, a1, a2, a3⟩ := cells4 hA
      go_wp2_with fail
      refine (HW.out _).mono ?_
      rintro e w2 ⟨rfl, hb2⟩
      have hB := below_trans hB hb2
      go_wp2_with fail
      go_ret3
      exact clPost_bad HE.out (by omega) hB
    | false =>
      simp only [hw, Bool.not_false] at HW
      have HE : Hid (clE cx cy size cols rows zs xl xh yl yh = 0) := show _ = _ from by unfold clE; rw [HK.out, hw]; simp
      clear hw
      have HCE := Lib.hid (fun W (h : IntsAt W (.slice a zs.length c) zs) => rcells_any cx cy size cols rows _ zs xl xh yl yh W h g1 g2 g3 g4 g5 g6 g7 g8 hz4)
      have HOU := Lib.hid (fun W => routside_any cx cy size cols rows (.slice a zs.length c) xl xh yl yh W g1 g2 g3 g4 g5 g6 g7 g8 g9 g10)
      have HFR := Lib.hid (flL_rows (cx := cx) (cy := cy) (xl := xl) (xh := xh) (yl := yl) (yh := yh) g5 g7 g9 HZL.out)
      have HOE := Lib.hid (outside_eq cx cy (1000 * size) cols rows xl xh yl yh (by omega))
      generalize flL cx cy (1000 * size) cols xl xh yl yh zs.length = FL at *
      generalize outsideB cx cy (1000 * size) cols rows xl xh yl yh = ob at *
      go_enter Tryz.func37, Tryz.ntmps37
      go_wp2_with fail
      obtain ⟨hM, hA, hz, hB⟩ := alloc2 w #[.int .i64 cx, .int .i64 cy, .int .i64 size, .int .i64 cols, .int .i64 rows, .slice a zs.length c] #[.int .i64 xl, .int .i64 xh, .int .i64 yl, .int .i64 yh] 42 25
      clear hz
      generalize (w.alloc (.cells #[.int .i64 cx, .int .i64 cy, .int .i64 size, .int .i64 cols, .int .i64 rows, .slice a zs.length c] 42)).alloc (.cells #[.int .i64 xl, .int .i64 xh, .int .i64 yl, .int .i64 yh] 25) = W0 at *
      refine (HC.out _ (HV.out.below hB)).mono ?_
      rintro e w1 ⟨rfl, hb1⟩
      have hA := hA.below hb1
      have hM := hM.below hb1
      have hB := below_trans hB hb1
      obtain ⟨a0, a1, a2, a3⟩ := cells4 hA
      go_wp2_with fail
      refine (HW.out _).mono ?_
      rintro e w2 ⟨rfl, hb2⟩
      clear a0 a1 a2 a3
      have hA := hA.below hb2
      have hM := hM.below hb2
      have hB := below_trans hB hb2
      obtain ⟨a0, a1, a2, a3⟩ := cells4 hA
      obtain ⟨m0, m1, m2, m3, m4, m5⟩ := cells6 hM
      go_wp2_with fail
      have hK : SM w.heap.size cx cy size cols rows (.slice a zs.length c) xl xh yl yh w2.drew := SM.of hM.drew hA.drew
      refine wp_region_noPanic ?_
      refine wp_region_held_drew (S := SM w.heap.size cx cy size cols rows (.slice a zs.length c) xl xh yl yh) (by kernel_rfl) hK (fun _ => ?_)
      first | (refine wpAnyH_take (i := 0) (v := ?_) rfl (by kernel_rfl) (by kernel_rfl) (by kernel_rfl) (fun _ _ _ h => h) (Or.inl ⟨by rfl, ?_⟩) hK ?_; rotate_left; (focus (intro w' hSw; obtain ⟨z0, z1, z2, z3, z4, z5, z6, z7, z8, z9⟩ := hSw; go_simp; (try with_reducible rfl); done)); (try simp only [Act.put, List.setIfInBounds_toArray, List.set_cons_zero, List.set_cons_succ, List.getElem_toArray, List.getElem_cons_succ, List.getElem_cons_zero])) | (refine wpAnyH_take (i := 0) (v := undef) rfl (by kernel_rfl) (by kernel_rfl) (by kernel_rfl) (fun _ _ _ h => h) (Or.inr ⟨by rfl, rfl⟩) hK ?_; (try simp only [Act.put, List.setIfInBounds_toArray, List.set_cons_zero, List.set_cons_succ, List.getElem_toArray, List.getElem_cons_succ, List.getElem_cons_zero]))
      first | (refine wpAnyH_take (i := 1) (v := ?_) rfl (by kernel_rfl) (by kernel_rfl) (by kernel_rfl) (fun _ _ _ h => h) (Or.inl ⟨by rfl, ?_⟩) hK ?_; rotate_left; (focus (intro w' hSw; obtain ⟨z0, z1, z2, z3, z4, z5, z6, z7, z8, z9⟩ := hSw; go_simp; (try with_reducible rfl); done)); (try simp only [Act.put, List.setIfInBounds_toArray, List.set_cons_zero, List.set_cons_succ, List.getElem_toArray, List.getElem_cons_succ, List.getElem_cons_zero])) | (refine wpAnyH_take (i := 1) (v := undef) rfl (by kernel_rfl) (by kernel_rfl) (by kernel_rfl) (fun _ _ _ h => h) (Or.inr ⟨by rfl, rfl⟩) hK ?_; (try simp only [Act.put, List.setIfInBounds_toArray, List.set_cons_zero, List.set_cons_succ, List.getElem_toArray, List.getElem_cons_succ, List.getElem_cons_zero]))
      first | (refine wpAnyH_take (i := 3) (v := ?_) rfl (by kernel_rfl) (by kernel_rfl) (by kernel_rfl) (fun _ _ _ h => h) (Or.inl ⟨by rfl, ?_⟩) hK ?_; rotate_left; (focus (intro w' hSw; obtain ⟨z0, z1, z2, z3, z4, z5, z6, z7, z8, z9⟩ := hSw; go_simp; (try with_reducible rfl); done)); (try simp only [Act.put, List.setIfInBounds_toArray, List.set_cons_zero, List.set_cons_succ, List.getElem_toArray, List.getElem_cons_succ, List.getElem_cons_zero])) | (refine wpAnyH_take (i := 3) (v := undef) rfl (by kernel_rfl) (by kernel_rfl) (by kernel_rfl) (fun _ _ _ h => h) (Or.inr ⟨by rfl, rfl⟩) hK ?_; (try simp only [Act.put, List.setIfInBounds_toArray, List.set_cons_zero, List.set_cons_succ, List.getElem_toArray, List.getElem_cons_succ, List.getElem_cons_zero]))
      first | (refine wpAnyH_take (i := 4) (v := ?_) rfl (by kernel_rfl) (by kernel_rfl) (by kernel_rfl) (fun _ _ _ h => h) (Or.inl ⟨by rfl, ?_⟩) hK ?_; rotate_left; (focus (intro w' hSw; obtain ⟨z0, z1, z2, z3, z4, z5, z6, z7, z8, z9⟩ := hSw; go_simp; (try with_reducible rfl); done)); (try simp only [Act.put, List.setIfInBounds_toArray, List.set_cons_zero, List.set_cons_succ, List.getElem_toArray, List.getElem_cons_succ, List.getElem_cons_zero])) | (refine wpAnyH_take (i := 4) (v := undef) rfl (by kernel_rfl) (by kernel_rfl) (by kernel_rfl) (fun _ _ _ h => h) (Or.inr ⟨by rfl, rfl⟩) hK ?_; (try simp only [Act.put, List.setIfInBounds_toArray, List.set_cons_zero, List.set_cons_succ, List.getElem_toArray, List.getElem_cons_succ, List.getElem_cons_zero]))
      refine wpAnyH_ready (rs := [2]) (by kernel_rfl) (by simp) (AllReadyH.cons rfl (fun K' hK' => ?_) AllReadyH.nil)
      go_simp
      refine (HCE.out _ (HV.out.below (below_trans hB (Below.refl _ _).drew))).mono ?_
      rintro e w3 ⟨v, rfl, hown, hb3⟩
      (try dsimp only)
      have hb3 := below_drew' hb3
      have hown := ownsRow_base hown hB.size
      have hM := hM.below hb3
      have hA := hA.below hb3
      have hB := below_trans hB hb3
      have hK : SM w.heap.size cx cy size cols rows (.slice a zs.length c) xl xh yl yh w3 := SM.of hM hA
      refine hK'.out _ _ hK (fun _ => ?_)
      clear hK' K' hb3
      (try simp only [Act.put, List.setIfInBounds_toArray, List.set_cons_zero, List.set_cons_succ, List.getElem_toArray, List.getElem_cons_succ, List.getElem_cons_zero])
      refine wpAnyH_ready (rs := [5]) (by kernel_rfl) (by simp) (AllReadyH.cons rfl (fun K' hK' => ?_) AllReadyH.nil)
      go_simp
      refine (HOU.out _).mono ?_
      rintro e w4 ⟨rfl, hb4⟩
      (try dsimp only)
      have hown := ownsRow_below hown hb4
      have hM := hM.below hb4
      have hA := hA.below hb4
      have hB := below_trans hB hb4
      have hK : SM w.heap.size cx cy size cols rows (.slice a zs.length c) xl xh yl yh w4 := SM.of hM hA
      refine hK'.out _ _ hK (fun _ => ?_)
      clear hK' K' hb4
      (try simp only [Act.put, List.setIfInBounds_toArray, List.set_cons_zero, List.set_cons_succ, List.getElem_toArray, List.getElem_cons_succ, List.getElem_cons_zero])
      first | (refine wpAnyH_take (i := 6) (v := ?_) rfl (by kernel_rfl) (by kernel_rfl) (by kernel_rfl) (fun _ _ _ h => h) (Or.inl ⟨by rfl, ?_⟩) hK ?_; rotate_left; (focus (intro w' hSw; obtain ⟨z0, z1, z2, z3, z4, z5, z6, z7, z8, z9⟩ := hSw; go_simp; (try with_reducible rfl); done)); (try simp only [Act.put, List.setIfInBounds_toArray, List.set_cons_zero, List.set_cons_succ, List.getElem_toArray, List.getElem_cons_succ, List.getElem_cons_zero])) | (refine wpAnyH_take (i := 6) (v := undef) rfl (by kernel_rfl) (by kernel_rfl) (by kernel_rfl) (fun _ _ _ h => h) (Or.inr ⟨by rfl, rfl⟩) hK ?_; (try simp only [Act.put, List.setIfInBounds_toArray, List.set_cons_zero, List.set_cons_succ, List.getElem_toArray, List.getElem_cons_succ, List.getElem_cons_zero]))
      first | (refine wpAnyH_take (i := 7) (v := ?_) rfl (by kernel_rfl) (by kernel_rfl) (by kernel_rfl) (fun _ _ _ h => h) (Or.inl ⟨by rfl, ?_⟩) hK ?_; rotate_left; (focus (intro w' hSw; obtain ⟨z0, z1, z2, z3, z4, z5, z6, z7, z8, z9⟩ := hSw; go_simp; (try with_reducible rfl); done)); (try simp only [Act.put, List.setIfInBounds_toArray, List.set_cons_zero, List.set_cons_succ, List.getElem_toArray, List.getElem_cons_succ, List.getElem_cons_zero])) | (refine wpAnyH_take (i := 7) (v := undef) rfl (by kernel_rfl) (by kernel_rfl) (by kernel_rfl) (fun _ _ _ h => h) (Or.inr ⟨by rfl, rfl⟩) hK ?_; (try simp only [Act.put, List.setIfInBounds_toArray, List.set_cons_zero, List.set_cons_succ, List.getElem_toArray, List.getElem_cons_succ, List.getElem_cons_zero]))
      first | (refine wpAnyH_take (i := 8) (v := ?_) rfl (by kernel_rfl) (by kernel_rfl) (by kernel_rfl) (fun _ _ _ h => h) (Or.inl ⟨by rfl, ?_⟩) hK ?_; rotate_left; (focus (intro w' hSw; obtain ⟨z0, z1, z2, z3, z4, z5, z6, z7, z8, z9⟩ := hSw; go_simp; (try with_reducible rfl); done)); (try simp only [Act.put, List.setIfInBounds_toArray, List.set_cons_zero, List.set_cons_succ, List.getElem_toArray, List.getElem_cons_succ, List.getElem_cons_zero])) | (refine wpAnyH_take (i := 8) (v := undef) rfl (by kernel_rfl) (by kernel_rfl) (by kernel_rfl) (fun _ _ _ h => h) (Or.inr ⟨by rfl, rfl⟩) hK ?_; (try simp only [Act.put, List.setIfInBounds_toArray, List.set_cons_zero, List.set_cons_succ, List.getElem_toArray, List.getElem_cons_succ, List.getElem_cons_zero]))
      refine wpAnyH_done (by kernel_rfl) (NoPanic.normal ?_) _
      (try simp only [Act.put, List.setIfInBounds_toArray, List.set_cons_zero, List.set_cons_succ, List.getElem_toArray, List.getElem_cons_succ, List.getElem_cons_zero])
      have HO := Lib.hid hown
      clear hown
      go_wp2_with fail
      go_ret3
      exact clPost_ok HE.out HFR.out HOE.out HO.out hB
  · have hkb : (k != 0) = true := by simpa using hk0
    have hkc : (k == 0) = false := by simpa using hk0
    have HE : Hid (clE cx cy size cols rows zs xl xh yl yh = k) := show _ = _ from by unfold clE; rw [HK.out]; simp [hk0]
    have HK0 := Lib.hid hk0
    clear hk0
    go_enter Tryz.func37, Tryz.ntmps37
    go_wp2_with fail
    obtain ⟨hM, hA, hz, hB⟩ := alloc2 w #[.int .i64 cx, .int .i64 cy, .int .i64 size, .int .i64 cols, .int .i64 rows, .slice a zs.length c] #[.int .i64 xl, .int .i64 xh, .int .i64 yl, .int .i64 yh] 42 25
    clear hz
    generalize (w.alloc (.cells #[.int .i64 cx, .int .i64 cy, .int .i64 size, .int .i64 cols, .int .i64 rows, .slice a zs.length c] 42)).alloc (.cells #[.int .i64 xl, .int .i64 xh, .int .i64 yl, .int .i64 yh] 25) = W0 at *
    refine (HC.out _ (HV.out.below hB)).mono ?_
    rintro e w1 ⟨rfl, hb1⟩
    have hB := below_trans hB hb1
    go_wp2_with fail
    go_ret3
    exact clPost_bad HE.out HK0.out hB
end Go.Proofs.YtmglbegbijofkaaGreatDoor
