import Derived.Test.YtmglbegbijofkaaGreatDoorPl32
import Derived.Test.YtmglbegbijofkaaGreatDoorW11
import Derived.Test.YtmglbegbijofkaaGreatDoorW28
import Derived.Test.YtmglbegbijofkaaGreatDoorBx
set_option linter.unusedVariables false
set_option linter.unusedSimpArgs false
/- share, has; Ships of one impact and one craft that is on its course. -/
namespace Go.Proofs.YtmglbegbijofkaaGreatDoor
open Go.RowKit
theorem ships_one {C : Craft} {x : Impact} {m : Int} {px py h : Int} (h0 : (shipsR [x] [C]).1 = 0) (hh : Has C.sp C.cl C.lo C.hi m px py h C.ss) (t1 : x.tl ≤ m) (t2 : m ≤ x.th) (a1 : x.xl ≤ px) (a2 : px ≤ x.xh) (a3 : x.yl ≤ py) (a4 : py ≤ x.yh) (a5 : C.lo ≤ h) (a6 : h ≤ C.hi) :
    ∃ t, shipsR [x] [C] = (0, [(0, 0, t)]) ∧ t ≤ m := by
  unfold shipsR at h0 ⊢
  rw [if_neg (by simp)] at h0 ⊢
  by_cases hs : [x].any strangeI = true
  · rw [if_pos hs] at h0; cases h0
  · rw [if_neg hs] at h0 ⊢
    by_cases hf : fleetE [C] ≠ 0
    · rw [if_pos hf] at h0; exact absurd h0 hf
    · rw [if_neg hf] at h0 ⊢
      have hx : strangeI x = false := by simpa using hs
      have hc : crAt [C] 0 = C := rfl
      have hi : imAt [x] 0 = x := rfl
      have hsi : shIn C 0 [x] 1 0 [] = if fE C x ≠ 0 then (fE C x, []) else (0, shAdd 0 0 (fT C x) []) := by
        simp only [shIn, hi]
      have hso : shOut [C] [x] 1 0 [] = if fE C x ≠ 0 then (fE C x, []) else (0, shAdd 0 0 (fT C x) []) := by
        have e1 : shOut [C] [x] 1 0 [] = if (shIn C 0 [x] 1 0 []).1 ≠ 0 then ((shIn C 0 [x] 1 0 []).1, []) else (0, (shIn C 0 [x] 1 0 []).2) := rfl
        rw [e1, hsi]
        by_cases hf2 : fE C x = 0
        · simp [hf2]
        · simp [hf2]
      change (shOut [C] [x] 1 0 []).1 = 0 at h0
      change ∃ t, shOut [C] [x] 1 0 [] = (0, [(0, 0, t)]) ∧ t ≤ m
      rw [hso] at h0 ⊢
      by_cases hf2 : fE C x = 0
      · have hr := hh.room a1 a2 a3 a4 a5 a6
        have h1 := first_has (o := fO C x) (m := m) hr (x.th + 1 - x.tl).toNat x.tl hf2 t1 (by omega)
        rw [if_neg (by simpa using hf2)]
        refine ⟨fT C x, ?_, h1.2⟩
        have h2 : 0 ≤ fT C x := by
          have h3 : x.tl ≤ fT C x := h1.1
          obtain ⟨_, _, q1, q2, q3, q4⟩ := strangeB_false.1 hx
          omega
        unfold shAdd
        rw [if_pos h2]
        rfl
      · rw [if_pos hf2] at h0
        exact absurd h0 hf2
set_option maxHeartbeats 400000 in
theorem share_any (n b : Int) (h0 : 0 ≤ n) (h1 : n ≤ 2000000000) (b0 : -128 ≤ b) (b1 : b ≤ 127) (w : World) : Calls Tryz.prog 32 #[.int .i64 n, .int .i8 b] w fun e w' => e = .returned (.int .i64 (shareZ n b)) ∧ w = w' := by
  have hs := shareZ_bd n b h0 b1
  have HS : Hid (shareZ n b = (n * max b (-127)).tdiv 127) := show _ = _ from rfl
  by_cases hb : b < -127
  · have hm : max b (-127) = -127 := by omega
    rw [hm] at HS
    rw [HS.out] at hs ⊢
    have o0 := IntWalk.i64_in b ⟨by omega, by omega⟩
    have o1 := IntWalk.i64_in (n * -127) ⟨by omega, by omega⟩
    have o2 := IntWalk.i64_in ((n * -127).tdiv 127) ⟨by omega, by omega⟩
    clear HS hm
    go_enter Tryz.func32, Tryz.ntmps32
    go_wp2_with fail
    go_ret
    exact ⟨rfl, rfl⟩
  · have hm : max b (-127) = b := by omega
    have k1 : n * -127 ≤ n * b := Int.mul_le_mul_of_nonneg_left (by omega) h0
    have k2 : n * b ≤ n * 127 := Int.mul_le_mul_of_nonneg_left b1 h0
    rw [hm] at HS
    rw [HS.out] at hs ⊢
    have o0 := IntWalk.i64_in b ⟨by omega, by omega⟩
    have o1 := IntWalk.i64_in (n * b) ⟨by omega, by omega⟩
    have o2 := IntWalk.i64_in ((n * b).tdiv 127) ⟨by omega, by omega⟩
    clear HS hm k1 k2
    go_enter Tryz.func32, Tryz.ntmps32
    go_wp2_with fail
    go_ret
    exact ⟨rfl, rfl⟩
def hasB (lo hi n : Int) : Bool := decide (lo ≤ n) && decide (n ≤ hi)
set_option maxHeartbeats 400000 in
theorem has_any (lo hi n : Int) (w : World) : Calls Tryz.prog 33 #[.agg #[.int .i64 lo, .int .i64 hi], .int .i64 n] w fun e w' => e = .returned (.bool (hasB lo hi n)) ∧ Below w.heap.size w w' := by
  by_cases p1 : lo ≤ n
  · by_cases p2 : n ≤ hi
    all_goals
      go_enter Tryz.func33, Tryz.ntmps33
      go_wp2_with fail
      go_ret
      exact ⟨ret_bool (by unfold hasB; simp [*] <;> omega), (by repeat (first | exact Below.refl _ _ | assumption | refine balloc ?_ _ | refine below_trans ?_ (by assumption) | refine Below.drew ?_ | refine below_drewN ?_ _ | refine Below.setCell ?_ (by simp <;> omega) _))⟩
  · go_enter Tryz.func33, Tryz.ntmps33
    go_wp2_with fail
    go_ret
    exact ⟨ret_bool (by unfold hasB; simp [*] <;> omega), (by repeat (first | exact Below.refl _ _ | assumption | refine balloc ?_ _ | refine below_trans ?_ (by assumption) | refine Below.drew ?_ | refine below_drewN ?_ _ | refine Below.setCell ?_ (by simp <;> omega) _))⟩
end Go.Proofs.YtmglbegbijofkaaGreatDoor
/- The moves of a course in memory; its rows of places and heights. -/
namespace Go.Proofs.YtmglbegbijofkaaGreatDoor
open Go.RowKit
/-- moves in a row: three small numbers each -/
def mvF (M : List (Int × Int × Int)) (i : Nat) : Value := .int .i8 (if i % 3 = 0 then (mvAt M (i / 3)).1 else if i % 3 = 1 then (mvAt M (i / 3)).2.1 else (mvAt M (i / 3)).2.2)
abbrev MvsAt (w : World) (v : Value) (M : List (Int × Int × Int)) : Prop := RowAt w v M.length 3 (mvF M)
theorem mv_cells {w : World} {b off : Nat} {M : List (Int × Int × Int)} (hc : ∀ i, i < M.length * 3 → w.cell? ⟨b, off + i, none⟩ = some (mvF M i)) {k : Nat} (hk : k < M.length) :
    w.cell? ⟨b, off + k * 3, none⟩ = some (.int .i8 (mvAt M k).1) ∧ w.cell? ⟨b, off + k * 3 + 1, none⟩ = some (.int .i8 (mvAt M k).2.1) ∧ w.cell? ⟨b, off + k * 3 + 2, none⟩ = some (.int .i8 (mvAt M k).2.2) := by
  have h := fun j (hj : j < 3) => hc (k * 3 + j) (by omega)
  unfold mvF at h
  refine ⟨?_, ?_, ?_⟩
  · have := h 0 (by omega)
    rw [show (k * 3 + 0) % 3 = 0 by omega, show (k * 3 + 0) / 3 = k by omega] at this
    exact this
  · have := h 1 (by omega)
    rw [show (k * 3 + 1) % 3 = 1 by omega, show (k * 3 + 1) / 3 = k by omega, ← Nat.add_assoc] at this
    exact this
  · have := h 2 (by omega)
    rw [show (k * 3 + 2) % 3 = 2 by omega, show (k * 3 + 2) / 3 = k by omega, ← Nat.add_assoc] at this
    exact this
theorem Tryz.info39 : (Tryz.prog.info? 39).map (fun i => (i.zero, i.size, i.bytes)) = some (some (.agg #[.int .i64 0, .int .i64 0]), 2, 16) := by kernel_rfl
/-- the places and the heights in two rows that share no block -/
structure RowsC (B : Nat) (ps : List (Int × Int)) (hs : List Int) (n : Nat) (vp vh : Value) (w : World) : Prop where
  p : w.ownsRow B 39 2 vp n (spc ps)
  h : w.ownsRow B 3 1 vh n (hs.map (Value.int .i64))
  ph : Apart vp vh
section
variable {B n : Nat} {ps : List (Int × Int)} {hs : List Int} {vp vh : Value} {w w' : World}
theorem RowsC.below (h : RowsC B ps hs n vp vh w) (hb : Below w.heap.size w w') : RowsC B ps hs n vp vh w' := ⟨ownsRow_below h.p hb, ownsRow_below h.h hb, h.ph⟩
end
end Go.Proofs.YtmglbegbijofkaaGreatDoor
/- Plain: the sights of a craft as a list of cells; those that are put on a course. -/
namespace Go.Proofs.YtmglbegbijofkaaGreatDoor
def sgV (s : Sight) : List Value := [.int .i64 s.t, .int .i64 s.x, .int .i64 s.y, .int .i64 s.h, .int .i64 s.e]
def sgc (l : List Sight) : List Value := l.flatMap sgV
theorem sgc_snoc (l : List Sight) (s : Sight) : sgc (l ++ [s]) = sgc l ++ [.int .i64 s.t, .int .i64 s.x, .int .i64 s.y, .int .i64 s.h, .int .i64 s.e] := by
  unfold sgc
  rw [List.flatMap_append]
  simp [sgV]
theorem sgc_get : ∀ (l : List Sight) (i : Nat), i < l.length * 5 → (sgc l)[i]? = some (sightF l i)
  | [], i, h => by simp at h
  | y :: l, i, h => by
    have e : sgc (y :: l) = sgV y ++ sgc l := by simp [sgc]
    rw [e]
    by_cases hi : i < 5
    · have h8 : (sgV y).length = 5 := rfl
      rw [List.getElem?_append_left (by rw [h8]; exact hi)]
      unfold sightF sgAt
      rw [show i / 5 = 0 by omega, show i % 5 = i by omega]
      simp only [List.getD_cons_zero]
      rw [List.getElem?_eq_getElem (by rw [h8]; exact hi)]
      match i, hi with
      | 0, _ => rfl
      | 1, _ => rfl
      | 2, _ => rfl
      | 3, _ => rfl
      | 4, _ => rfl
    · have h8 : (sgV y).length = 5 := rfl
      rw [List.getElem?_append_right (by rw [h8]; omega), h8, sgc_get l (i - 5) (by simp at h; omega)]
      unfold sightF sgAt
      rw [show i / 5 = (i - 5) / 5 + 1 by omega, show i % 5 = (i - 5) % 5 by omega]
      simp
theorem sights_of_row {w : World} {B : Nat} {v : Value} {l : List Sight} (h : w.ownsRow B 77 5 v l.length (sgc l)) : SightsAt w v l := by
  obtain ⟨h1, ⟨rfl, h2⟩ | ⟨g, cap, cur, rfl, h4, h5, h6, h7, h8, h9⟩⟩ := h
  · exact ⟨none, 0, by rw [h2], .inl h2⟩
  · refine ⟨_, cap, rfl, .inr ⟨g, 0, rfl, (Array.getElem?_eq_some_iff.1 h5).1, fun i hi => ?_⟩⟩
    have hg := sgc_get l i hi
    rw [← h9, List.getElem?_take_of_lt (by omega)] at hg
    rw [Nat.zero_add]
    unfold World.cell?
    rw [h5]
    simpa using hg
theorem putL_succ {fr : Int} {px py hh : Nat → Int} {ss : List Sight} (k : Nat) : putL fr px py hh ss (k + 1) = putL fr px py hh ss k ++ [putS fr px py hh (sgAt ss k) k] := by
  unfold putL
  rw [List.range_succ, List.map_append]
  rfl
theorem putL_length {fr : Int} {px py hh : Nat → Int} {ss : List Sight} (k : Nat) : (putL fr px py hh ss k).length = k := by simp [putL]
end Go.Proofs.YtmglbegbijofkaaGreatDoor
