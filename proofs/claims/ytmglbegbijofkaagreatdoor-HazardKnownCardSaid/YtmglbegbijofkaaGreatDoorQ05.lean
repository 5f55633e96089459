import Derived.Test.YtmglbegbijofkaaGreatDoorQ04
import Derived.Deep.RegionHeld3
import Derived.RegionTactic
import Derived.Test.YtmglbegbijofkaaGreatDoorQ00
set_option linter.unusedVariables false
set_option linter.unusedSimpArgs false
namespace Go.Proofs.YtmglbegbijofkaaGreatDoor
open Go.RowKit

end Go.Proofs.YtmglbegbijofkaaGreatDoor
namespace Go.Proofs.YtmglbegbijofkaaGreatDoor
open Go.RowKit

/-- the cells of a map's box and of an area's box -/
def SM (n : Nat) (cx cy size cols rows : Int) (pv : Value) (xl xh yl yh : Int) (w' : World) : Prop :=
  w'.cell? ⟨n, 0, none⟩ = some (.int .i64 cx) ∧ w'.cell? ⟨n, 1, none⟩ = some (.int .i64 cy) ∧ w'.cell? ⟨n, 2, none⟩ = some (.int .i64 size) ∧ w'.cell? ⟨n, 3, none⟩ = some (.int .i64 cols) ∧ w'.cell? ⟨n, 4, none⟩ = some (.int .i64 rows) ∧ w'.cell? ⟨n, 5, none⟩ = some pv ∧
    w'.cell? ⟨n + 1, 0, none⟩ = some (.int .i64 xl) ∧ w'.cell? ⟨n + 1, 1, none⟩ = some (.int .i64 xh) ∧ w'.cell? ⟨n + 1, 2, none⟩ = some (.int .i64 yl) ∧ w'.cell? ⟨n + 1, 3, none⟩ = some (.int .i64 yh)
theorem SM.of {n : Nat} {cx cy size cols rows : Int} {pv : Value} {xl xh yl yh : Int} {w' : World} (hM : cellsAt w' n 42 #[.int .i64 cx, .int .i64 cy, .int .i64 size, .int .i64 cols, .int .i64 rows, pv]) (hA : cellsAt w' (n + 1) 25 #[.int .i64 xl, .int .i64 xh, .int .i64 yl, .int .i64 yh]) : SM n cx cy size cols rows pv xl xh yl yh w' := by
  obtain ⟨m0, m1, m2, m3, m4, m5⟩ := cells6 hM
  obtain ⟨a0, a1, a2, a3⟩ := cells4 hA
  exact ⟨m0, m1, m2, m3, m4, m5, a0, a1, a2, a3⟩
end Go.Proofs.YtmglbegbijofkaaGreatDoor
namespace Go.Proofs.YtmglbegbijofkaaGreatDoor
open Go.RowKit

/-- the cells that the reference finds among the first k -/
def flL (cx cy s cols xl xh yl yh : Int) (k : Nat) : List Int := ((List.range k).filter fun (i : Nat) => meetsB cx cy s xl xh yl yh ((i : Int) / cols) ((i : Int) % cols)).map fun (i : Nat) => (i : Int)
theorem flL_len (cx cy s cols xl xh yl yh : Int) (k : Nat) : (flL cx cy s cols xl xh yl yh k).length ≤ k := by
  unfold flL
  rw [List.length_map]
  exact Nat.le_trans (List.length_filter_le _ _) (by simp)
theorem flL_eq (cx cy s xl xh yl yh : Int) (cols rows : Nat) (hs : 1 ≤ s) (hc : 1 ≤ cols) : flL cx cy s cols xl xh yl yh (rows * cols) = rowsL (stepsLo xl cx s) (stepsLo yl cy s) cols (stepsHi xh cx s cols - stepsLo xl cx s + 1).toNat (stepsHi yh cy s rows - stepsLo yl cy s + 1).toNat := by
  rw [← cells_ref cx cy s xl xh yl yh cols rows hs hc]
  unfold flL
  simp
end Go.Proofs.YtmglbegbijofkaaGreatDoor
namespace Go.Proofs.YtmglbegbijofkaaGreatDoor
open Go.RowKit

theorem ints_at_row {w : World} {B : Nat} {v : Value} {l : List Int} (h : w.ownsRow B 3 1 v l.length (l.map (Value.int .i64))) : IntsAt w v l := by
  by_cases hl : l = []
  · subst hl
    obtain ⟨_, ⟨rfl, _⟩ | ⟨g, cap, cur, rfl, _⟩⟩ := h
    · exact ⟨_, _, rfl, .inl rfl⟩
    · exact ⟨_, _, rfl, .inl rfl⟩
  · have hp : 0 < l.length := List.length_pos_iff.2 hl
    obtain ⟨g, c, rfl, _, hg, hc⟩ := ints_of_row h hp
    exact ⟨_, _, rfl, .inr ⟨g, 0, rfl, hg, fun i hi => by rw [Nat.zero_add]; exact (hc i (by omega)).1⟩⟩
set_option maxRecDepth 100000 in
set_option maxHeartbeats 800000 in
theorem ints_same (va vb : Value) (l : List Int) (w : World) (ha : IntsAt w va l) (hb : IntsAt w vb l) (hn : l.length ≤ 1000000) : Calls Tryz.prog 38 #[va, vb] w fun e w' => e = .returned (.bool true) ∧ Below w.heap.size w w' := by
  obtain ⟨a1, c1, rfl, hr1⟩ := ha
  obtain ⟨a2, c2, rfl, hr2⟩ := hb
  go_enter Tryz.func38, Tryz.ntmps38
  go_wp2_with fail
  go_loopw [5] (fun i wr => ∃ k : Nat, k ≤ l.length ∧ i = .int .i64 k ∧ Below w.heap.size w wr) (fun i _ => l.length - (intOf i).toNat)
  case atStart => exact ⟨0, Nat.zero_le _, rfl, Below.refl _ _⟩
  case round =>
    obtain ⟨k, hk, rfl, hB⟩ := hrel
    by_cases hlt : k < l.length
    · rcases hr1 with h0 | ⟨b, off, rfl, hb, hc⟩
      · omega
      · rcases hr2 with h0 | ⟨b', off', rfl, hb', hc'⟩
        · omega
        · have e1 := (hB.cell (p := ⟨b, off + k, none⟩) hb).trans (hc k (by omega))
          have e2 := (hB.cell (p := ⟨b', off' + k, none⟩) hb').trans (hc' k (by omega))
          unfold intF at e1 e2
          generalize l[k]?.getD 0 = z at *
          have i1 : (0 : Int) ≤ (k : Int) := by omega
          have i2 : (k : Int) < (l.length : Int) := by omega
          clear hc hc'
          go_wp2_with fail
          go_quiet (fail)
          go_wp2_with fail
          go_roundw
          case rel => exact ⟨k + 1, by omega, by go_num, below_drewN' hB _⟩
          case measure => simp [intOf]; omega
    · obtain rfl : k = l.length := by omega
      go_wp2_with fail
      go_ret
      exact ⟨rfl, hB⟩

def clE (cx cy size cols rows : Int) (zs : List Int) (xl xh yl yh : Int) : Int := if chkE cx cy size cols rows zs ≠ 0 then chkE cx cy size cols rows zs else if wildB xl xh yl yh then 7 else 0
def clL (cx cy size cols rows : Int) (zs : List Int) (xl xh yl yh : Int) : List Int := if clE cx cy size cols rows zs xl xh yl yh = 0 then rowsL (stepsLo xl cx (1000 * size)) (stepsLo yl cy (1000 * size)) cols (stepsHi xh cx (1000 * size) cols - stepsLo xl cx (1000 * size) + 1).toNat (stepsHi yh cy (1000 * size) rows - stepsLo yl cy (1000 * size) + 1).toNat else []
def clM (cx cy size cols rows : Int) (zs : List Int) (xl xh yl yh : Int) : Bool := if clE cx cy size cols rows zs xl xh yl yh = 0 then (stepsMo xl xh cx (1000 * size) cols || stepsMo yl yh cy (1000 * size) rows) else false
/-- what Cells leaves -/
def ClPost (w : World) (l : List Int) (mo : Bool) (k : Int) (e : Ending) (w' : World) : Prop :=
  ∃ v, e = .returned (.tuple #[v, .bool mo, .int .i64 k]) ∧ w'.ownsRow w.heap.size 3 1 v l.length (l.map (Value.int .i64)) ∧ Below w.heap.size w w'
theorem clPost_bad {w w' : World} {cx cy size cols rows : Int} {zs : List Int} {xl xh yl yh k : Int} (h : clE cx cy size cols rows zs xl xh yl yh = k) (hk : ¬ k = 0) (hb : Below w.heap.size w w') :
    ClPost w (clL cx cy size cols rows zs xl xh yl yh) (clM cx cy size cols rows zs xl xh yl yh) (clE cx cy size cols rows zs xl xh yl yh) (.returned (.tuple #[.slice none 0 0, .bool false, .int .i64 k])) w' := by
  refine ⟨.slice none 0 0, ?_, ?_, hb⟩
  · unfold clM; rw [h, if_neg hk]
  · unfold clL; rw [h, if_neg hk]; simpa using World.ownsRow_nil _ _ _ _
theorem clPost_ok {w w' : World} {cx cy size cols rows : Int} {zs : List Int} {xl xh yl yh : Int} {v : Value} {l : List Int} {mo : Bool} (h : clE cx cy size cols rows zs xl xh yl yh = 0)
    (hl : l = rowsL (stepsLo xl cx (1000 * size)) (stepsLo yl cy (1000 * size)) cols (stepsHi xh cx (1000 * size) cols - stepsLo xl cx (1000 * size) + 1).toNat (stepsHi yh cy (1000 * size) rows - stepsLo yl cy (1000 * size) + 1).toNat)
    (hm : mo = (stepsMo xl xh cx (1000 * size) cols || stepsMo yl yh cy (1000 * size) rows)) (ho : w'.ownsRow w.heap.size 3 1 v l.length (l.map (Value.int .i64))) (hb : Below w.heap.size w w') :
    ClPost w (clL cx cy size cols rows zs xl xh yl yh) (clM cx cy size cols rows zs xl xh yl yh) (clE cx cy size cols rows zs xl xh yl yh) (.returned (.tuple #[v, .bool mo, .int .i64 0])) w' := by
  refine ⟨v, ?_, ?_, hb⟩
  · unfold clM; rw [h, if_pos rfl, hm]
  · unfold clL; rw [h, if_pos rfl, ← hl]; exact ho

set_option maxRecDepth 100000 in
set_option maxHeartbeats 800000 in
theorem Cells_any (cx cy size cols rows : Int) (pv : Value) (zs : List Int) (xl xh yl yh : Int) (w : World) (hv : IntsAt w pv zs) (hn : zs.length ≤ 9223372036854775806) :
    Calls Tryz.prog 27 #[.agg #[.int .i64 cx, .int .i64 cy, .int .i64 size, .int .i64 cols, .int .i64 rows, pv], .agg #[.int .i64 xl, .int .i64 xh, .int .i64 yl, .int .i64 yh]] w
      (ClPost w (clL cx cy size cols rows zs xl xh yl yh) (clM cx cy size cols rows zs xl xh yl yh) (clE cx cy size cols rows zs xl xh yl yh)) := by
  obtain ⟨a, c, rfl, hx⟩ := id hv
  clear hx
  have HV := Lib.hid hv
  clear hv
  have HC := Lib.hid (fun W (h : IntsAt W (.slice a zs.length c) zs) => check_any cx cy size cols rows _ zs W h hn)
  have HW := Lib.hid (fun W => wild_any xl xh yl yh W)
  unfold ErrTup at HC
  generalize chkPart cx cy size cols rows zs = A0 at *
  generalize chkAt cx cy size cols rows zs = A1 at *
  generalize hk : chkE cx cy size cols rows zs = k at *
  have HK := Lib.hid hk
  clear hk
  by_cases hk0 : k = 0
  · subst hk0
    obtain ⟨hmb, hzl, hix⟩ := chkE_zero HK.out
    have hbd := mapB_false.1 hmb
    obtain ⟨⟨g1, g2⟩, ⟨g3, g4⟩, ⟨g5, g6⟩, ⟨g7, g8⟩, ⟨g9, g10⟩⟩ := hbd
    clear hmb hzl hix
    cases hw : wildB xl xh yl yh with
    | true =>
      rw [hw] at HW
      have HE : Hid (clE cx cy size cols rows zs xl xh yl yh = 7) := show _ = _ from by unfold clE; rw [HK.out, hw]; simp
      clear hw
      go_enter Tryz.func27, Tryz.ntmps27
      go_wp2_with fail
      obtain ⟨hM, hA, hz, hB⟩ := alloc2 w #[.int .i64 cx, .int .i64 cy, .int .i64 size, .int .i64 cols, .int .i64 rows, .slice a zs.length c] #[.int .i64 xl, .int .i64 xh, .int .i64 yl, .int .i64 yh] 42 25
      clear hz
      generalize (w.alloc (.cells #[.int .i64 cx, .int .i64 cy, .int .i64 size, .int .i64 cols, .int .i64 rows, .slice a zs.length c] 42)).alloc (.cells #[.int .i64 xl, .int .i64 xh, .int .i64 yl, .int .i64 yh] 25) = W0 at *
      refine (HC.out _ (HV.out.below hB)).mono ?_
      rintro e w1 ⟨rfl, hb1⟩
      have hA := hA.below hb1
      have hB := below_trans hB hb1
      obtain ⟨a0, a1, a2, a3⟩ := cells4 hA
      go_wp2_with fail
      refine (HW.out _).mono ?_
      rintro e w2 ⟨rfl, hb2⟩
      have hB := below_trans hB hb2
      go_wp2_with fail
      go_ret3
      exact clPost_bad HE.out (by omega) hB
    | false =>
      rw [hw] at HW
      have HE : Hid (clE cx cy size cols rows zs xl xh yl yh = 0) := show _ = _ from by unfold clE; rw [HK.out, hw]; simp
      obtain ⟨⟨l1, l2, l3⟩, l4, l5, l6⟩ := wildB_false.1 hw
      clear hw
      have HCE := Lib.hid (fun W => cells_any cx cy size cols rows (.slice a zs.length c) xl xh yl yh W g1 g2 g3 g4 g5 g6 g7 g8 g9 g10 l1 l2 l4 l5 l3 l6)
      go_enter Tryz.func27, Tryz.ntmps27
      go_wp2_with fail
      obtain ⟨hM, hA, hz, hB⟩ := alloc2 w #[.int .i64 cx, .int .i64 cy, .int .i64 size, .int .i64 cols, .int .i64 rows, .slice a zs.length c] #[.int .i64 xl, .int .i64 xh, .int .i64 yl, .int .i64 yh] 42 25
      clear hz
      generalize (w.alloc (.cells #[.int .i64 cx, .int .i64 cy, .int .i64 size, .int .i64 cols, .int .i64 rows, .slice a zs.length c] 42)).alloc (.cells #[.int .i64 xl, .int .i64 xh, .int .i64 yl, .int .i64 yh] 25) = W0 at *
      refine (HC.out _ (HV.out.below hB)).mono ?_
      rintro e w1 ⟨rfl, hb1⟩
      have hA := hA.below hb1
      have hM := hM.below hb1
      have hB := below_trans hB hb1
      obtain ⟨a0, a1, a2, a3⟩ := cells4 hA
      go_wp2_with fail
      refine (HW.out _).mono ?_
      rintro e w2 ⟨rfl, hb2⟩
      clear a0 a1 a2 a3
      have hA := hA.below hb2
      have hM := hM.below hb2
      have hB := below_trans hB hb2
      obtain ⟨a0, a1, a2, a3⟩ := cells4 hA
      obtain ⟨m0, m1, m2, m3, m4, m5⟩ := cells6 hM
      go_wp2_with fail
      refine (HCE.out _).mono ?_
      rintro e w3 ⟨v, rfl, hown, hb3⟩
      have HO := Lib.hid (ownsRow_base hown hB.size)
      have hB3 := below_trans hB hb3
      clear hown hb3
      go_wp2_with fail
      go_ret3
      exact clPost_ok HE.out rfl rfl HO.out hB3
  · have hkb : (k != 0) = true := by simpa using hk0
    have HE : Hid (clE cx cy size cols rows zs xl xh yl yh = k) := show _ = _ from by unfold clE; rw [HK.out]; simp [hk0]
    have HK0 := Lib.hid hk0
    clear hk0
    go_enter Tryz.func27, Tryz.ntmps27
    go_wp2_with fail
    obtain ⟨hM, hA, hz, hB⟩ := alloc2 w #[.int .i64 cx, .int .i64 cy, .int .i64 size, .int .i64 cols, .int .i64 rows, .slice a zs.length c] #[.int .i64 xl, .int .i64 xh, .int .i64 yl, .int .i64 yh] 42 25
    clear hz
    generalize (w.alloc (.cells #[.int .i64 cx, .int .i64 cy, .int .i64 size, .int .i64 cols, .int .i64 rows, .slice a zs.length c] 42)).alloc (.cells #[.int .i64 xl, .int .i64 xh, .int .i64 yl, .int .i64 yh] 25) = W0 at *
    refine (HC.out _ (HV.out.below hB)).mono ?_
    rintro e w1 ⟨rfl, hb1⟩
    have hB := below_trans hB hb1
    go_wp2_with fail
    go_ret3
    exact clPost_bad HE.out HK0.out hB

theorem flL_rows {cx cy size cols rows : Int} {zs : List Int} {xl xh yl yh : Int} (h5 : 1 ≤ size) (h7 : 1 ≤ cols) (h9 : 1 ≤ rows) (hz : (zs.length : Int) = cols * rows) :
    flL cx cy (1000 * size) cols xl xh yl yh zs.length = rowsL (stepsLo xl cx (1000 * size)) (stepsLo yl cy (1000 * size)) cols (stepsHi xh cx (1000 * size) cols - stepsLo xl cx (1000 * size) + 1).toNat (stepsHi yh cy (1000 * size) rows - stepsLo yl cy (1000 * size) + 1).toNat := by
  have h := flL_eq cx cy (1000 * size) xl xh yl yh cols.toNat rows.toNat (by omega) (by omega)
  have e1 : ((cols.toNat : Nat) : Int) = cols := by omega
  have e2 : ((rows.toNat : Nat) : Int) = rows := by omega
  have e3 : rows.toNat * cols.toNat = zs.length := by
    have : ((rows.toNat * cols.toNat : Nat) : Int) = (zs.length : Int) := by rw [Int.natCast_mul, e1, e2, hz, Int.mul_comm]
    omega
  rw [e1, e2, e3] at h
  exact h
end Go.Proofs.YtmglbegbijofkaaGreatDoor
namespace Go.Proofs.YtmglbegbijofkaaGreatDoor
open Go.RowKit

def ceV (k : Int) (l : List Int) : Int := if k ≠ 0 then 0 else match l with | [] => -1 | z :: _ => z
set_option maxRecDepth 100000 in
set_option maxHeartbeats 800000 in
theorem Cell_any (cx cy size cols rows : Int) (pv : Value) (zs : List Int) (px py : Int) (w : World) (hv : IntsAt w pv zs) (hn : zs.length ≤ 9223372036854775806) :
    Calls Tryz.prog 39 #[.agg #[.int .i64 cx, .int .i64 cy, .int .i64 size, .int .i64 cols, .int .i64 rows, pv], .agg #[.int .i64 px, .int .i64 py]] w fun e w' =>
      e = ErrPair (ceV (clE cx cy size cols rows zs px px py py) (clL cx cy size cols rows zs px px py py)) (clE cx cy size cols rows zs px px py py) ∧ Below w.heap.size w w' := by
  obtain ⟨a, c, rfl, hx⟩ := id hv
  clear hx
  have HV := Lib.hid hv
  clear hv
  have HC := Lib.hid (fun W (h : IntsAt W (.slice a zs.length c) zs) => Cells_any cx cy size cols rows _ zs px px py py W h hn)
  generalize clE cx cy size cols rows zs px px py py = k at *
  generalize clL cx cy size cols rows zs px px py py = L at *
  generalize clM cx cy size cols rows zs px px py py = mo at *
  go_enter Tryz.func39, Tryz.ntmps39
  go_wp2_with fail
  obtain ⟨hM, hA, hz, hB⟩ := alloc2 w #[.int .i64 cx, .int .i64 cy, .int .i64 size, .int .i64 cols, .int .i64 rows, .slice a zs.length c] #[.int .i64 px, .int .i64 py] 42 39
  clear hz
  generalize (w.alloc (.cells #[.int .i64 cx, .int .i64 cy, .int .i64 size, .int .i64 cols, .int .i64 rows, .slice a zs.length c] 42)).alloc (.cells #[.int .i64 px, .int .i64 py] 39) = W0 at *
  refine (HC.out _ (HV.out.below hB)).mono ?_
  rintro e w1 ⟨v, rfl, hown, hb1⟩
  have hB := below_trans hB hb1
  have hin := ints_at_row hown
  obtain ⟨a1, c1, rfl, hr⟩ := hin
  clear hown hb1
  by_cases hk0 : k = 0
  · subst hk0
    cases L with
    | nil =>
      go_wp2_with fail
      go_ret2
      exact ⟨rfl, hB⟩
    | cons z t =>
      rcases hr with h0 | ⟨b, off, rfl, hb, hc⟩
      · simp at h0
      · have hc0 := hc 0 (by simp)
        have e0 : intF (z :: t) 0 = .int .i64 z := by simp [intF]
        rw [e0, Nat.add_zero] at hc0
        have hl1 : (((z :: t).length : Int) == 0) = false := by rw [beq_eq_false_iff_ne]; simp; omega
        have hl2 : (0 : Int) < ((z :: t).length : Int) := by simp <;> omega
        have hl3 : 0 < (z :: t).length := by simp
        have HCV : Hid (ceV 0 (z :: t) = z) := show _ = _ from rfl
        generalize (z :: t).length = n at *
        clear hc e0
        go_wp2_with fail
        go_ret2
        exact ⟨ret_tup2 (vint HCV.out.symm) rfl, hB⟩
  · have hkb : (k != 0) = true := by simpa using hk0
    have HCV : Hid (ceV k L = 0) := show _ = _ from by unfold ceV; simp [hk0]
    clear hk0
    go_wp2_with fail
    go_ret2
    exact ⟨ret_tup2 (vint HCV.out.symm) rfl, hB⟩
end Go.Proofs.YtmglbegbijofkaaGreatDoor
namespace Go.Proofs.YtmglbegbijofkaaGreatDoor
open Go.RowKit

def WhE (nm : List UInt8) (speed climb low high tick : Int) (ss : List Sight) : Int :=
  if crE nm speed climb low high ss ≠ 0 then crE nm speed climb low high ss else if outB tick 0 100000 then 7 else if whB speed climb low high tick ss then 0 else 9
def wx (e x : Int) : Int := if e = 0 then x else 0
def whTup (a0 a1 a2 a3 a4 a5 e : Int) : Ending := .returned (.tuple #[.agg #[.int .i64 a0, .int .i64 a1, .int .i64 a2, .int .i64 a3], .agg #[.int .i64 a4, .int .i64 a5], .int .i64 e])
/-- what Where returns -/
def WhEnd (nm : List UInt8) (speed climb low high tick : Int) (ss : List Sight) : Ending :=
  whTup (wx (WhE nm speed climb low high tick ss) (whXL speed tick ss)) (wx (WhE nm speed climb low high tick ss) (whXH speed tick ss)) (wx (WhE nm speed climb low high tick ss) (whYL speed tick ss)) (wx (WhE nm speed climb low high tick ss) (whYH speed tick ss))
    (wx (WhE nm speed climb low high tick ss) (whZL climb low tick ss)) (wx (WhE nm speed climb low high tick ss) (whZH climb high tick ss)) (WhE nm speed climb low high tick ss)
theorem whEnd_bad {nm : List UInt8} {speed climb low high tick : Int} {ss : List Sight} {k : Int} (h : WhE nm speed climb low high tick ss = k) (hk : ¬ k = 0) : Ending.returned (.tuple #[.agg #[.int .i64 0, .int .i64 0, .int .i64 0, .int .i64 0], .agg #[.int .i64 0, .int .i64 0], .int .i64 k]) = WhEnd nm speed climb low high tick ss := by
  unfold WhEnd whTup wx
  rw [h]
  simp [hk]
theorem whEnd_ok {nm : List UInt8} {speed climb low high tick : Int} {ss : List Sight} (h : WhE nm speed climb low high tick ss = 0) : Ending.returned (.tuple #[.agg #[.int .i64 (whXL speed tick ss), .int .i64 (whXH speed tick ss), .int .i64 (whYL speed tick ss), .int .i64 (whYH speed tick ss)], .agg #[.int .i64 (whZL climb low tick ss), .int .i64 (whZH climb high tick ss)], .int .i64 0]) = WhEnd nm speed climb low high tick ss := by
  unfold WhEnd whTup wx
  rw [h]
  simp

set_option maxRecDepth 100000 in
set_option maxHeartbeats 800000 in
theorem Where_any (nm : ByteArray) (speed climb low high : Int) (v : Value) (ss : List Sight) (tick : Int) (w : World) (hv : SightsAt w v ss) (hs : nm.size ≤ 9223372036854775806) (hn : ss.length ≤ 9223372036854775806) :
    Calls Tryz.prog 30 #[.agg #[.string nm, .int .i64 speed, .int .i64 climb, .int .i64 low, .int .i64 high, v], .int .i64 tick] w fun e w' =>
      e = WhEnd nm.data.toList speed climb low high tick ss ∧ Below w.heap.size w w' := by
  obtain ⟨a, c, rfl, hx⟩ := id hv
  clear hx
  have HV := Lib.hid hv
  clear hv
  have HC := Lib.hid (fun W (h : SightsAt W (.slice a ss.length c) ss) => craft_any nm speed climb low high _ ss W h hs hn)
  have HO := Lib.hid (fun W => out_any tick 0 100000 W)
  have HW := Lib.hid (fun W (h : SightsAt W (.slice a ss.length c) ss) (t0 : 0 ≤ tick) (t1 : tick ≤ 100000) (ok : CraftOK speed climb low high ss) => where_any nm speed climb low high _ ss tick W h t0 t1 ok.s0 ok.s1 ok.c0 ok.c1 ok.n0 ok.n1 ok.sg)
  generalize crI nm.data.toList speed climb low high ss = ci at *
  generalize hk : crE nm.data.toList speed climb low high ss = k at *
  have HK := Lib.hid hk
  clear hk
  by_cases hk0 : k = 0
  · subst hk0
    have hok := Lib.hid (craft_ok HK.out)
    cases ho : outB tick 0 100000 with
    | true =>
      rw [ho] at HO
      have HE : Hid (WhE nm.data.toList speed climb low high tick ss = 7) := show _ = _ from by unfold WhE; rw [HK.out, ho]; simp
      clear ho
      go_enter Tryz.func30, Tryz.ntmps30
      go_wp2_with fail
      obtain ⟨hA, hR, hH, hz, hB⟩ := alloc3 w #[.string nm, .int .i64 speed, .int .i64 climb, .int .i64 low, .int .i64 high, .slice a ss.length c] #[.int .i64 0, .int .i64 0, .int .i64 0, .int .i64 0] #[.int .i64 0, .int .i64 0] 63 25 23
      clear hz
      generalize ((w.alloc (.cells #[.string nm, .int .i64 speed, .int .i64 climb, .int .i64 low, .int .i64 high, .slice a ss.length c] 63)).alloc (.cells #[.int .i64 0, .int .i64 0, .int .i64 0, .int .i64 0] 25)).alloc (.cells #[.int .i64 0, .int .i64 0] 23) = W0 at *
      refine (HC.out _ (HV.out.below hB)).mono ?_
      rintro e w1 ⟨rfl, hb1⟩
      unfold ErrPair
      have hA := hA.below hb1
      have hR := hR.below hb1
      have hH := hH.below hb1
      have hB := below_trans hB hb1
      clear hb1
      obtain ⟨m0, m1, m2, m3, m4, m5⟩ := cells6 hA
      obtain ⟨r0, r1, r2, r3⟩ := cells4 hR
      obtain ⟨h0, h1⟩ := cells2 hH
      have f0 := hR.frozen 0
      have f1 := hR.frozen 1
      have f2 := hR.frozen 2
      have f3 := hR.frozen 3
      have g0 := hH.frozen 0
      have g1 := hH.frozen 1
      go_wp2_with fail
      refine (HO.out _).mono ?_
      rintro e w2 ⟨rfl, rfl⟩
      go_wp2_with fail
      obtain ⟨y1, y2⟩ := st42_at hR hH (by omega) (.int .i64 0) (.int .i64 0) (.int .i64 0) (.int .i64 0) (.int .i64 0) (.int .i64 0)
      obtain ⟨x0, x1, x2, x3⟩ := cells4 y1
      obtain ⟨x4, x5⟩ := cells2 y2
      refine bodyPost_ret (v := .tuple #[.agg #[.int .i64 0, .int .i64 0, .int .i64 0, .int .i64 0], .agg #[.int .i64 0, .int .i64 0], .int .i64 7]) (by simp [results, Tryz.results30, go_sem, x0, x1, x2, x3, x4, x5]) rfl ⟨?_, st42_below hB (by omega) (by omega) _ _ _ _ _ _⟩
      exact whEnd_bad HE.out (by omega)
    | false =>
      rw [ho] at HO
      have hto := outB_false.1 ho
      obtain ⟨ht0, ht1⟩ := hto
      cases hw : whB speed climb low high tick ss with
      | false =>
        have HE : Hid (WhE nm.data.toList speed climb low high tick ss = 9) := show _ = _ from by unfold WhE; rw [HK.out, ho, hw]; simp
        unfold WhereEnd at HW
        rw [hw] at HW
        clear ho hw
        generalize whXL speed tick ss = A0 at *
        generalize whXH speed tick ss = A1 at *
        generalize whYL speed tick ss = A2 at *
        generalize whYH speed tick ss = A3 at *
        generalize whZL climb low tick ss = A4 at *
        generalize whZH climb high tick ss = A5 at *
        go_enter Tryz.func30, Tryz.ntmps30
        go_wp2_with fail
        obtain ⟨hA, hR, hH, hz, hB⟩ := alloc3 w #[.string nm, .int .i64 speed, .int .i64 climb, .int .i64 low, .int .i64 high, .slice a ss.length c] #[.int .i64 0, .int .i64 0, .int .i64 0, .int .i64 0] #[.int .i64 0, .int .i64 0] 63 25 23
        clear hz
        generalize ((w.alloc (.cells #[.string nm, .int .i64 speed, .int .i64 climb, .int .i64 low, .int .i64 high, .slice a ss.length c] 63)).alloc (.cells #[.int .i64 0, .int .i64 0, .int .i64 0, .int .i64 0] 25)).alloc (.cells #[.int .i64 0, .int .i64 0] 23) = W0 at *
        refine (HC.out _ (HV.out.below hB)).mono ?_
        rintro e w1 ⟨rfl, hb1⟩
        unfold ErrPair
        have hA := hA.below hb1
        have hR := hR.below hb1
        have hH := hH.below hb1
        have hB := below_trans hB hb1
        clear hb1
        obtain ⟨m0, m1, m2, m3, m4, m5⟩ := cells6 hA
        obtain ⟨r0, r1, r2, r3⟩ := cells4 hR
        obtain ⟨h0, h1⟩ := cells2 hH
        have f0 := hR.frozen 0
        have f1 := hR.frozen 1
        have f2 := hR.frozen 2
        have f3 := hR.frozen 3
        have g0 := hH.frozen 0
        have g1 := hH.frozen 1
        go_wp2_with fail
        refine (HO.out _).mono ?_
        rintro e w2 ⟨rfl, rfl⟩
        go_wp2_with fail
        refine (HW.out _ (HV.out.below hB) ht0 ht1 hok.out).mono ?_
        rintro e w3 ⟨rfl, hb3⟩
        clear m0 m1 m2 m3 m4 m5 r0 r1 r2 r3 h0 h1 f0 f1 f2 f3 g0 g1
        have hR := (hR.below hb3).below (balloc (Below.refl _ _) (.cells #[.int .i64 A0, .int .i64 A1, .int .i64 A2, .int .i64 A3, .int .i64 A4, .int .i64 A5] 161))
        have hH := (hH.below hb3).below (balloc (Below.refl _ _) (.cells #[.int .i64 A0, .int .i64 A1, .int .i64 A2, .int .i64 A3, .int .i64 A4, .int .i64 A5] 161))
        have hA := (hA.below hb3).below (balloc (Below.refl _ _) (.cells #[.int .i64 A0, .int .i64 A1, .int .i64 A2, .int .i64 A3, .int .i64 A4, .int .i64 A5] 161))
        have hB := balloc (below_trans hB hb3) (.cells #[.int .i64 A0, .int .i64 A1, .int .i64 A2, .int .i64 A3, .int .i64 A4, .int .i64 A5] 161)
        obtain ⟨m0, m1, m2, m3, m4, m5⟩ := cells6 hA
        obtain ⟨r0, r1, r2, r3⟩ := cells4 hR
        obtain ⟨h0, h1⟩ := cells2 hH
        have f0 := hR.frozen 0
        have f1 := hR.frozen 1
        have f2 := hR.frozen 2
        have f3 := hR.frozen 3
        have g0 := hH.frozen 0
        have g1 := hH.frozen 1
        go_wp2_with fail
        obtain ⟨y1, y2⟩ := st42_at hR hH (by omega) (.int .i64 0) (.int .i64 0) (.int .i64 0) (.int .i64 0) (.int .i64 0) (.int .i64 0)
        obtain ⟨x0, x1, x2, x3⟩ := cells4 y1
        obtain ⟨x4, x5⟩ := cells2 y2
        refine bodyPost_ret (v := .tuple #[.agg #[.int .i64 0, .int .i64 0, .int .i64 0, .int .i64 0], .agg #[.int .i64 0, .int .i64 0], .int .i64 9]) (by simp [results, Tryz.results30, go_sem, x0, x1, x2, x3, x4, x5]) rfl ⟨?_, st42_below hB (by omega) (by omega) _ _ _ _ _ _⟩
        exact whEnd_bad HE.out (by omega)
      | true =>
        have HE : Hid (WhE nm.data.toList speed climb low high tick ss = 0) := show _ = _ from by unfold WhE; rw [HK.out, ho, hw]; simp
        have HF := Lib.hid (whEnd_ok HE.out)
        unfold WhereEnd at HW
        rw [hw] at HW
        clear ho hw HE
        generalize whXL speed tick ss = A0 at *
        generalize whXH speed tick ss = A1 at *
        generalize whYL speed tick ss = A2 at *
        generalize whYH speed tick ss = A3 at *
        generalize whZL climb low tick ss = A4 at *
        generalize whZH climb high tick ss = A5 at *
        go_enter Tryz.func30, Tryz.ntmps30
        go_wp2_with fail
        obtain ⟨hA, hR, hH, hz, hB⟩ := alloc3 w #[.string nm, .int .i64 speed, .int .i64 climb, .int .i64 low, .int .i64 high, .slice a ss.length c] #[.int .i64 0, .int .i64 0, .int .i64 0, .int .i64 0] #[.int .i64 0, .int .i64 0] 63 25 23
        clear hz
        generalize ((w.alloc (.cells #[.string nm, .int .i64 speed, .int .i64 climb, .int .i64 low, .int .i64 high, .slice a ss.length c] 63)).alloc (.cells #[.int .i64 0, .int .i64 0, .int .i64 0, .int .i64 0] 25)).alloc (.cells #[.int .i64 0, .int .i64 0] 23) = W0 at *
        refine (HC.out _ (HV.out.below hB)).mono ?_
        rintro e w1 ⟨rfl, hb1⟩
        unfold ErrPair
        have hA := hA.below hb1
        have hR := hR.below hb1
        have hH := hH.below hb1
        have hB := below_trans hB hb1
        clear hb1
        obtain ⟨m0, m1, m2, m3, m4, m5⟩ := cells6 hA
        obtain ⟨r0, r1, r2, r3⟩ := cells4 hR
        obtain ⟨h0, h1⟩ := cells2 hH
        have f0 := hR.frozen 0
        have f1 := hR.frozen 1
        have f2 := hR.frozen 2
        have f3 := hR.frozen 3
        have g0 := hH.frozen 0
        have g1 := hH.frozen 1
        go_wp2_with fail
        refine (HO.out _).mono ?_
        rintro e w2 ⟨rfl, rfl⟩
        go_wp2_with fail
        refine (HW.out _ (HV.out.below hB) ht0 ht1 hok.out).mono ?_
        rintro e w3 ⟨rfl, hb3⟩
        clear m0 m1 m2 m3 m4 m5 r0 r1 r2 r3 h0 h1 f0 f1 f2 f3 g0 g1
        have hR := (hR.below hb3).below (balloc (Below.refl _ _) (.cells #[.int .i64 A0, .int .i64 A1, .int .i64 A2, .int .i64 A3, .int .i64 A4, .int .i64 A5] 161))
        have hH := (hH.below hb3).below (balloc (Below.refl _ _) (.cells #[.int .i64 A0, .int .i64 A1, .int .i64 A2, .int .i64 A3, .int .i64 A4, .int .i64 A5] 161))
        have hA := cellsNew w3 #[.int .i64 A0, .int .i64 A1, .int .i64 A2, .int .i64 A3, .int .i64 A4, .int .i64 A5] 161
        have hB := balloc (below_trans hB hb3) (.cells #[.int .i64 A0, .int .i64 A1, .int .i64 A2, .int .i64 A3, .int .i64 A4, .int .i64 A5] 161)
        go_wp2_with fail
        generalize (w3.alloc (.cells #[.int .i64 A0, .int .i64 A1, .int .i64 A2, .int .i64 A3, .int .i64 A4, .int .i64 A5] 161)) = W4 at *
        generalize w3.heap.size = sb at *
        obtain ⟨m0, m1, m2, m3, m4, m5⟩ := cells6 hA
        obtain ⟨r0, r1, r2, r3⟩ := cells4 hR
        obtain ⟨h0, h1⟩ := cells2 hH
        have f0 := hR.frozen 0
        have f1 := hR.frozen 1
        have f2 := hR.frozen 2
        have f3 := hR.frozen 3
        have g0 := hH.frozen 0
        have g1 := hH.frozen 1
        go_region
        all_goals go_wp2_with fail
        obtain ⟨y1, y2⟩ := st42_at hR hH (by omega) (.int .i64 A0) (.int .i64 A1) (.int .i64 A2) (.int .i64 A3) (.int .i64 A4) (.int .i64 A5)
        obtain ⟨x0, x1, x2, x3⟩ := cells4 y1
        obtain ⟨x4, x5⟩ := cells2 y2
        refine bodyPost_ret (v := .tuple #[.agg #[.int .i64 A0, .int .i64 A1, .int .i64 A2, .int .i64 A3], .agg #[.int .i64 A4, .int .i64 A5], .int .i64 0]) (by simp [results, Tryz.results30, go_sem, x0, x1, x2, x3, x4, x5]) rfl ⟨HF.out, (st42_below hB (by omega) (by omega) _ _ _ _ _ _).drew⟩
  · have hkb : (k != 0) = true := by simpa using hk0
    have HE : Hid (WhE nm.data.toList speed climb low high tick ss = k) := show _ = _ from by unfold WhE; rw [HK.out]; simp [hk0]
    have HK0 := Lib.hid hk0
    clear hk0
    go_enter Tryz.func30, Tryz.ntmps30
    go_wp2_with fail
    obtain ⟨hA, hR, hH, hz, hB⟩ := alloc3 w #[.string nm, .int .i64 speed, .int .i64 climb, .int .i64 low, .int .i64 high, .slice a ss.length c] #[.int .i64 0, .int .i64 0, .int .i64 0, .int .i64 0] #[.int .i64 0, .int .i64 0] 63 25 23
    clear hz
    generalize ((w.alloc (.cells #[.string nm, .int .i64 speed, .int .i64 climb, .int .i64 low, .int .i64 high, .slice a ss.length c] 63)).alloc (.cells #[.int .i64 0, .int .i64 0, .int .i64 0, .int .i64 0] 25)).alloc (.cells #[.int .i64 0, .int .i64 0] 23) = W0 at *
    refine (HC.out _ (HV.out.below hB)).mono ?_
    rintro e w1 ⟨rfl, hb1⟩
    unfold ErrPair
    have hA := hA.below hb1
    have hR := hR.below hb1
    have hH := hH.below hb1
    have hB := below_trans hB hb1
    clear hb1
    obtain ⟨m0, m1, m2, m3, m4, m5⟩ := cells6 hA
    obtain ⟨r0, r1, r2, r3⟩ := cells4 hR
    obtain ⟨h0, h1⟩ := cells2 hH
    have f0 := hR.frozen 0
    have f1 := hR.frozen 1
    have f2 := hR.frozen 2
    have f3 := hR.frozen 3
    have g0 := hH.frozen 0
    have g1 := hH.frozen 1
    go_wp2_with fail
    obtain ⟨y1, y2⟩ := st42_at hR hH (by omega) (.int .i64 0) (.int .i64 0) (.int .i64 0) (.int .i64 0) (.int .i64 0) (.int .i64 0)
    obtain ⟨x0, x1, x2, x3⟩ := cells4 y1
    obtain ⟨x4, x5⟩ := cells2 y2
    refine bodyPost_ret (v := .tuple #[.agg #[.int .i64 0, .int .i64 0, .int .i64 0, .int .i64 0], .agg #[.int .i64 0, .int .i64 0], .int .i64 k]) (by simp [results, Tryz.results30, go_sem, x0, x1, x2, x3, x4, x5]) rfl ⟨?_, st42_below hB (by omega) (by omega) _ _ _ _ _ _⟩
    exact whEnd_bad HE.out HK0.out
end Go.Proofs.YtmglbegbijofkaaGreatDoor
namespace Go.Proofs.YtmglbegbijofkaaGreatDoor
open Go.RowKit
end Go.Proofs.YtmglbegbijofkaaGreatDoor
namespace Go.Proofs.YtmglbegbijofkaaGreatDoor
open Go.RowKit
end Go.Proofs.YtmglbegbijofkaaGreatDoor
