import Derived.Test.YtmglbegbijofkaaGreatDoorW7
import Derived.Test.YtmglbegbijofkaaGreatDoorPA
set_option linter.unusedVariables false
set_option linter.unusedSimpArgs false
namespace Go.Proofs.YtmglbegbijofkaaGreatDoor
open Go.RowKit

/-- a closure that tells a room for a tick -/
def RoomOf (g : Nat) (lb : Array Value) (o : Int → Int × Int × Int × Int × Int × Int) (lo hi : Int) (w : World) : Prop :=
  ∀ (t : Int), lo ≤ t → t ≤ hi → ∀ W : World, Below w.heap.size w W → Calls Tryz.prog g (#[.int .i64 t] ++ lb) W fun e w' =>
    e = .returned (.agg #[.int .i64 (o t).1, .int .i64 (o t).2.1, .int .i64 (o t).2.2.1, .int .i64 (o t).2.2.2.1, .int .i64 (o t).2.2.2.2.1, .int .i64 (o t).2.2.2.2.2]) ∧ Below W.heap.size W w'

set_option maxRecDepth 100000 in
set_option maxHeartbeats 2000000 in
theorem ships1_room (bx bc : Nat) (p xl xh yl yh tl th speed climb low high : Int) (nm : ByteArray) (v : Value) (lo hi : Int) (w : World) (hbx : bx < w.heap.size) (hbc : bc < w.heap.size)
    (x1 : w.cell? ⟨bx, 1, none⟩ = some (.int .i64 xl)) (x2 : w.cell? ⟨bx, 2, none⟩ = some (.int .i64 xh)) (x3 : w.cell? ⟨bx, 3, none⟩ = some (.int .i64 yl)) (x4 : w.cell? ⟨bx, 4, none⟩ = some (.int .i64 yh))
    (c3 : w.cell? ⟨bc, 3, none⟩ = some (.int .i64 low)) (c4 : w.cell? ⟨bc, 4, none⟩ = some (.int .i64 high)) :
    RoomOf 99 #[.pointer (some ⟨bx, 0, none⟩), .pointer (some ⟨bc, 0, none⟩)] (fun _ => (xl, xh, yl, yh, low, high)) lo hi w := by
  intro t h1 h2 W hb
  have k1 := below_cell hb x1
  have k2 := below_cell hb x2
  have k3 := below_cell hb x3
  have k4 := below_cell hb x4
  have k5 := below_cell hb c3
  have k6 := below_cell hb c4
  clear x1 x2 x3 x4 c3 c4 h1 h2
  have b1 : bx < W.heap.size := Nat.lt_of_lt_of_le hbx hb.size
  have b2 : bc < W.heap.size := Nat.lt_of_lt_of_le hbc hb.size
  show Calls Tryz.prog 99 #[.int .i64 t, .pointer (some ⟨bx, 0, none⟩), .pointer (some ⟨bc, 0, none⟩)] W _
  go_enter Tryz.func99, Tryz.ntmps99
  go_wp2_with fail
  exact bodyPost_ret (v := .agg #[.int .i64 xl, .int .i64 xh, .int .i64 yl, .int .i64 yh, .int .i64 low, .int .i64 high]) (by simp [results, Tryz.results99, go_sem]) rfl ⟨rfl, (by repeat (first | exact Below.refl _ _ | assumption | refine balloc ?_ _ | refine below_trans ?_ (by assumption) | refine Below.drew ?_ | refine below_drewN ?_ _ | refine Below.setCell ?_ (by simp <;> omega) _))⟩

set_option maxRecDepth 100000 in
set_option maxHeartbeats 4000000 in
theorem first_any (bx bc : Nat) (o : Int → Int × Int × Int × Int × Int × Int) (nm : ByteArray) (speed climb low high : Int) (v : Value) (ss : List Sight) (lo hi : Int) (w : World) (hv : SightsAt w v ss) (hok : CraftOK speed climb low high ss)
    (hl : 0 ≤ lo) (hh : hi ≤ 100000) (hlh : lo ≤ hi + 1) (hof : RoomOf 99 #[.pointer (some ⟨bx, 0, none⟩), .pointer (some ⟨bc, 0, none⟩)] o lo hi w) :
    Calls Tryz.prog 98 #[.agg #[.string nm, .int .i64 speed, .int .i64 climb, .int .i64 low, .int .i64 high, v], .agg #[.int .i64 lo, .int .i64 hi], .func (.func 99) #[] #[.pointer (some ⟨bx, 0, none⟩), .pointer (some ⟨bc, 0, none⟩)]] w fun e w' =>
      e = ErrPair (firstT speed climb low high ss o (hi + 1 - lo).toNat lo) (firstE speed climb low high ss o (hi + 1 - lo).toNat lo) ∧ Below w.heap.size w w' := by
  obtain ⟨a, c, rfl, hx⟩ := id hv
  clear hx
  have hbx : ∀ i : Nat, i < 6 → ((w.alloc (.cells #[.string nm, .int .i64 speed, .int .i64 climb, .int .i64 low, .int .i64 high, .slice a ss.length c] 63)).alloc (.cells #[.int .i64 lo, .int .i64 hi] 23)).cell? ⟨w.heap.size, i, none⟩ = some (#[Value.string nm, .int .i64 speed, .int .i64 climb, .int .i64 low, .int .i64 high, .slice a ss.length c].getD i undef) := by
    intro i hi
    have : i = 0 ∨ i = 1 ∨ i = 2 ∨ i = 3 ∨ i = 4 ∨ i = 5 := by omega
    rcases this with rfl | rfl | rfl | rfl | rfl | rfl <;> simp
  have htk : ((w.alloc (.cells #[.string nm, .int .i64 speed, .int .i64 climb, .int .i64 low, .int .i64 high, .slice a ss.length c] 63)).alloc (.cells #[.int .i64 lo, .int .i64 hi] 23)).cell? ⟨w.heap.size + 1, 1, none⟩ = some (.int .i64 hi) := by simp
  have hW1 : Below w.heap.size w ((w.alloc (.cells #[.string nm, .int .i64 speed, .int .i64 climb, .int .i64 low, .int .i64 high, .slice a ss.length c] 63)).alloc (.cells #[.int .i64 lo, .int .i64 hi] 23)) := (by repeat (first | exact Below.refl _ _ | assumption | refine balloc ?_ _ | refine below_trans ?_ (by assumption) | refine Below.drew ?_ | refine below_drewN ?_ _ | refine Below.setCell ?_ (by simp <;> omega) _))
  have hsz1 : w.heap.size + 2 ≤ ((w.alloc (.cells #[.string nm, .int .i64 speed, .int .i64 climb, .int .i64 low, .int .i64 high, .slice a ss.length c] 63)).alloc (.cells #[.int .i64 lo, .int .i64 hi] 23)).heap.size := by simp
  have HV := Lib.hid hv
  have HOF := Lib.hid hof
  have HOK := Lib.hid hok
  clear hv hof hok
  go_enter Tryz.func98, Tryz.ntmps98
  go_wp2_with fail
  generalize ((w.alloc (.cells #[.string nm, .int .i64 speed, .int .i64 climb, .int .i64 low, .int .i64 high, .slice a ss.length c] 63)).alloc (.cells #[.int .i64 lo, .int .i64 hi] 23)) = W1 at *
  have HBX := Lib.hid hbx
  have HTK := Lib.hid htk
  clear hbx htk
  go_loopw [8] (fun t wr => ∃ k : Nat, k ≤ (hi + 1 - lo).toNat ∧ t = .int .i64 (lo + k) ∧ Below W1.heap.size W1 wr ∧ Hid (firstT speed climb low high ss o (hi + 1 - lo).toNat lo = firstT speed climb low high ss o ((hi + 1 - lo).toNat - k) (lo + k)) ∧ Hid (firstE speed climb low high ss o (hi + 1 - lo).toNat lo = firstE speed climb low high ss o ((hi + 1 - lo).toNat - k) (lo + k))) (fun t _ => (hi + 1 - intOf t).toNat)
  case atStart => exact ⟨0, Nat.zero_le _, by simp, Below.refl _ _, by simp [Hid], by simp [Hid]⟩
  case round =>
    obtain ⟨k, hk, rfl, hBw, HT, HE⟩ := hrel
    have htk := (hBw.cell (p := ⟨w.heap.size + 1, 1, none⟩) (show w.heap.size + 1 < W1.heap.size by omega)).trans HTK.out
    by_cases hlt : lo + k ≤ hi
    · have b0 := (hBw.cell (p := ⟨w.heap.size, 0, none⟩) (show w.heap.size < W1.heap.size by omega)).trans (HBX.out 0 (by omega))
      have b1 := (hBw.cell (p := ⟨w.heap.size, 1, none⟩) (show w.heap.size < W1.heap.size by omega)).trans (HBX.out 1 (by omega))
      have b2 := (hBw.cell (p := ⟨w.heap.size, 2, none⟩) (show w.heap.size < W1.heap.size by omega)).trans (HBX.out 2 (by omega))
      have b3 := (hBw.cell (p := ⟨w.heap.size, 3, none⟩) (show w.heap.size < W1.heap.size by omega)).trans (HBX.out 3 (by omega))
      have b4 := (hBw.cell (p := ⟨w.heap.size, 4, none⟩) (show w.heap.size < W1.heap.size by omega)).trans (HBX.out 4 (by omega))
      have b5 := (hBw.cell (p := ⟨w.heap.size, 5, none⟩) (show w.heap.size < W1.heap.size by omega)).trans (HBX.out 5 (by omega))
      simp at b0 b1 b2 b3 b4 b5
      have hBv : Below w.heap.size w wr := below_trans hW1 hBw
      have hrow := Lib.hid (HV.out.below hBv)
      have HST : Hid (firstT speed climb low high ss o ((hi + 1 - lo).toNat - k) (lo + k) = if !whB speed climb low high (lo + k) ss then 0 else if roomB speed climb low high (lo + k) ss (o (lo + k)).1 (o (lo + k)).2.1 (o (lo + k)).2.2.1 (o (lo + k)).2.2.2.1 (o (lo + k)).2.2.2.2.1 (o (lo + k)).2.2.2.2.2 then lo + k else firstT speed climb low high ss o ((hi + 1 - lo).toNat - (k + 1)) (lo + k + 1)) := show _ = _ from by rw [show (hi + 1 - lo).toNat - k = ((hi + 1 - lo).toNat - (k + 1)) + 1 by omega]; rfl
      have HSE : Hid (firstE speed climb low high ss o ((hi + 1 - lo).toNat - k) (lo + k) = if !whB speed climb low high (lo + k) ss then 9 else if roomB speed climb low high (lo + k) ss (o (lo + k)).1 (o (lo + k)).2.1 (o (lo + k)).2.2.1 (o (lo + k)).2.2.2.1 (o (lo + k)).2.2.2.2.1 (o (lo + k)).2.2.2.2.2 then 0 else firstE speed climb low high ss o ((hi + 1 - lo).toNat - (k + 1)) (lo + k + 1)) := show _ = _ from by rw [show (hi + 1 - lo).toNat - k = ((hi + 1 - lo).toNat - (k + 1)) + 1 by omega]; rfl
      go_wp2_with fail
      refine (where_any _ _ _ _ _ _ _ _ _ hrow.out (by omega) (by omega) HOK.out.s0 HOK.out.s1 HOK.out.c0 HOK.out.c1 HOK.out.n0 HOK.out.n1 HOK.out.sg).mono ?_
      rintro e w2 ⟨rfl, hb2⟩
      unfold WhereEnd
      cases hwb : whB speed climb low high (lo + k) ss with
      | false =>
        have HW := Lib.hid hwb
        clear hwb
        go_wp2_with fail
        go_ret2
        refine ⟨ret_tup2 (vint ?_) (vint ?_), (by repeat (first | exact Below.refl _ _ | assumption | refine balloc ?_ _ | refine below_trans ?_ (by assumption) | refine Below.drew ?_ | refine below_drewN ?_ _ | refine Below.setCell ?_ (by simp <;> omega) _))⟩
        · rw [HT.out, HST.out, HW.out]; rfl
        · rw [HE.out, HSE.out, HW.out]; rfl
      | true =>
        have HW := Lib.hid hwb
        clear hwb
        have HR : Hid (roomB speed climb low high (lo + k) ss (o (lo + k)).1 (o (lo + k)).2.1 (o (lo + k)).2.2.1 (o (lo + k)).2.2.2.1 (o (lo + k)).2.2.2.2.1 (o (lo + k)).2.2.2.2.2 = (!apartB (whXL speed (lo + k) ss) (whXH speed (lo + k) ss) (o (lo + k)).1 (o (lo + k)).2.1 && !apartB (whYL speed (lo + k) ss) (whYH speed (lo + k) ss) (o (lo + k)).2.2.1 (o (lo + k)).2.2.2.1 && !apartB (whZL climb low (lo + k) ss) (whZH climb high (lo + k) ss) (o (lo + k)).2.2.2.2.1 (o (lo + k)).2.2.2.2.2)) := show _ = _ from rfl
        have hof := HOF.out (lo + k) (by omega) (by omega)
        rw [HR.out] at HST HSE
        have HF := Lib.hid hof
        clear hof HR
        generalize whXL speed (lo + k) ss = A0 at *
        generalize whXH speed (lo + k) ss = A1 at *
        generalize whYL speed (lo + k) ss = A2 at *
        generalize whYH speed (lo + k) ss = A3 at *
        generalize whZL climb low (lo + k) ss = A4 at *
        generalize whZH climb high (lo + k) ss = A5 at *
        go_wp2_with fail
        have hB2 : Below w.heap.size w (w2.alloc (.cells #[.int .i64 A0, .int .i64 A1, .int .i64 A2, .int .i64 A3, .int .i64 A4, .int .i64 A5] 161)) := (by repeat (first | exact Below.refl _ _ | assumption | refine balloc ?_ _ | refine below_trans ?_ (by assumption) | refine Below.drew ?_ | refine below_drewN ?_ _ | refine Below.setCell ?_ (by simp <;> omega) _))
        refine (HF.out _ hB2).mono ?_
        rintro e w3 ⟨rfl, hb3⟩
        clear HF
        generalize (o (lo + k)).1 = O0 at *
        generalize (o (lo + k)).2.1 = O1 at *
        generalize (o (lo + k)).2.2.1 = O2 at *
        generalize (o (lo + k)).2.2.2.1 = O3 at *
        generalize (o (lo + k)).2.2.2.2.1 = O4 at *
        generalize (o (lo + k)).2.2.2.2.2 = O5 at *
        have hB3 : Below w.heap.size w w3 := below_trans hB2 hb3
        have hB3' : Below W1.heap.size W1 w3 := below_trans (balloc (below_trans hBw hb2) _) hb3
        have hz3 : w2.heap.size < w3.heap.size := by have := hb3.size; simp at this; omega
        have q0 : w3.cell? ⟨w2.heap.size, 0, none⟩ = some (.int .i64 A0) := below_cell hb3 (by simp)
        have q1 : w3.cell? ⟨w2.heap.size, 1, none⟩ = some (.int .i64 A1) := below_cell hb3 (by simp)
        have q2 : w3.cell? ⟨w2.heap.size, 2, none⟩ = some (.int .i64 A2) := below_cell hb3 (by simp)
        have q3 : w3.cell? ⟨w2.heap.size, 3, none⟩ = some (.int .i64 A3) := below_cell hb3 (by simp)
        have q4 : w3.cell? ⟨w2.heap.size, 4, none⟩ = some (.int .i64 A4) := below_cell hb3 (by simp)
        have q5 : w3.cell? ⟨w2.heap.size, 5, none⟩ = some (.int .i64 A5) := below_cell hb3 (by simp)
        clear hb3 hB2 hb2 hBw hBv b0 b1 b2 b3 b4 b5 htk hrow
        go_wp2_with fail
        have z0 : (w3.alloc (.cells #[.int .i64 O0, .int .i64 O1, .int .i64 O2, .int .i64 O3, .int .i64 O4, .int .i64 O5] 161)).cell? ⟨w3.heap.size, 0, none⟩ = some (.int .i64 O0) := by simp
        have z1 : (w3.alloc (.cells #[.int .i64 O0, .int .i64 O1, .int .i64 O2, .int .i64 O3, .int .i64 O4, .int .i64 O5] 161)).cell? ⟨w3.heap.size, 1, none⟩ = some (.int .i64 O1) := by simp
        have z2 : (w3.alloc (.cells #[.int .i64 O0, .int .i64 O1, .int .i64 O2, .int .i64 O3, .int .i64 O4, .int .i64 O5] 161)).cell? ⟨w3.heap.size, 2, none⟩ = some (.int .i64 O2) := by simp
        have z3 : (w3.alloc (.cells #[.int .i64 O0, .int .i64 O1, .int .i64 O2, .int .i64 O3, .int .i64 O4, .int .i64 O5] 161)).cell? ⟨w3.heap.size, 3, none⟩ = some (.int .i64 O3) := by simp
        have z4 : (w3.alloc (.cells #[.int .i64 O0, .int .i64 O1, .int .i64 O2, .int .i64 O3, .int .i64 O4, .int .i64 O5] 161)).cell? ⟨w3.heap.size, 4, none⟩ = some (.int .i64 O4) := by simp
        have z5 : (w3.alloc (.cells #[.int .i64 O0, .int .i64 O1, .int .i64 O2, .int .i64 O3, .int .i64 O4, .int .i64 O5] 161)).cell? ⟨w3.heap.size, 5, none⟩ = some (.int .i64 O5) := by simp
        have q0 : (w3.alloc (.cells #[.int .i64 O0, .int .i64 O1, .int .i64 O2, .int .i64 O3, .int .i64 O4, .int .i64 O5] 161)).cell? ⟨w2.heap.size, 0, none⟩ = some (.int .i64 A0) := alloc_cell q0 _
        have q1 : (w3.alloc (.cells #[.int .i64 O0, .int .i64 O1, .int .i64 O2, .int .i64 O3, .int .i64 O4, .int .i64 O5] 161)).cell? ⟨w2.heap.size, 1, none⟩ = some (.int .i64 A1) := alloc_cell q1 _
        have q2 : (w3.alloc (.cells #[.int .i64 O0, .int .i64 O1, .int .i64 O2, .int .i64 O3, .int .i64 O4, .int .i64 O5] 161)).cell? ⟨w2.heap.size, 2, none⟩ = some (.int .i64 A2) := alloc_cell q2 _
        have q3 : (w3.alloc (.cells #[.int .i64 O0, .int .i64 O1, .int .i64 O2, .int .i64 O3, .int .i64 O4, .int .i64 O5] 161)).cell? ⟨w2.heap.size, 3, none⟩ = some (.int .i64 A3) := alloc_cell q3 _
        have q4 : (w3.alloc (.cells #[.int .i64 O0, .int .i64 O1, .int .i64 O2, .int .i64 O3, .int .i64 O4, .int .i64 O5] 161)).cell? ⟨w2.heap.size, 4, none⟩ = some (.int .i64 A4) := alloc_cell q4 _
        have q5 : (w3.alloc (.cells #[.int .i64 O0, .int .i64 O1, .int .i64 O2, .int .i64 O3, .int .i64 O4, .int .i64 O5] 161)).cell? ⟨w2.heap.size, 5, none⟩ = some (.int .i64 A5) := alloc_cell q5 _
        have hB4 : Below w.heap.size w (w3.alloc (.cells #[.int .i64 O0, .int .i64 O1, .int .i64 O2, .int .i64 O3, .int .i64 O4, .int .i64 O5] 161)) := balloc hB3 _
        have hB4' : Below W1.heap.size W1 (w3.alloc (.cells #[.int .i64 O0, .int .i64 O1, .int .i64 O2, .int .i64 O3, .int .i64 O4, .int .i64 O5] 161)) := balloc hB3' _
        clear hB3 hB3'
        generalize (w3.alloc (.cells #[.int .i64 O0, .int .i64 O1, .int .i64 O2, .int .i64 O3, .int .i64 O4, .int .i64 O5] 161)) = w4 at *
        generalize w3.heap.size = r3 at *
        generalize w2.heap.size = r2 at *
        refine (apart_any _ _ _ _ _).mono ?_
        rintro e w5 ⟨rfl, hb5⟩
        have hB5' := below_trans hB4' hb5
        have hB5 := below_trans hB4 hb5
        have q0 := below_cell hb5 q0
        have z0 := below_cell hb5 z0
        have q1 := below_cell hb5 q1
        have z1 := below_cell hb5 z1
        have q2 := below_cell hb5 q2
        have z2 := below_cell hb5 z2
        have q3 := below_cell hb5 q3
        have z3 := below_cell hb5 z3
        have q4 := below_cell hb5 q4
        have z4 := below_cell hb5 z4
        have q5 := below_cell hb5 q5
        have z5 := below_cell hb5 z5
        clear hb5 hB4 hB4'
        cases ha0 : apartB A0 A1 O0 O1 with
        | true =>
          have HA0 := Lib.hid ha0
          go_wp2_with fail
          go_roundw
          case rel => exact ⟨k + 1, by omega, by go_num, hB5', by unfold Hid; rw [HT.out, HST.out, HW.out]; simp [HA0.out]; congr 1; omega, by unfold Hid; rw [HE.out, HSE.out, HW.out]; simp [HA0.out]; congr 1; omega⟩
          case measure => simp [intOf]; omega
        | false =>
          have HA0 := Lib.hid ha0
          go_wp2_with fail
          refine (apart_any _ _ _ _ _).mono ?_
          rintro e w6 ⟨rfl, hb6⟩
          have hB6' := below_trans hB5' hb6
          have hB6 := below_trans hB5 hb6
          have q0 := below_cell hb6 q0
          have z0 := below_cell hb6 z0
          have q1 := below_cell hb6 q1
          have z1 := below_cell hb6 z1
          have q2 := below_cell hb6 q2
          have z2 := below_cell hb6 z2
          have q3 := below_cell hb6 q3
          have z3 := below_cell hb6 z3
          have q4 := below_cell hb6 q4
          have z4 := below_cell hb6 z4
          have q5 := below_cell hb6 q5
          have z5 := below_cell hb6 z5
          clear hb6 hB5 hB5'
          cases ha1 : apartB A2 A3 O2 O3 with
          | true =>
            have HA1 := Lib.hid ha1
            go_wp2_with fail
            go_roundw
            case rel => exact ⟨k + 1, by omega, by go_num, hB6', by unfold Hid; rw [HT.out, HST.out, HW.out]; simp [HA0.out, HA1.out]; congr 1; omega, by unfold Hid; rw [HE.out, HSE.out, HW.out]; simp [HA0.out, HA1.out]; congr 1; omega⟩
            case measure => simp [intOf]; omega
          | false =>
            have HA1 := Lib.hid ha1
            go_wp2_with fail
            refine (apart_any _ _ _ _ _).mono ?_
            rintro e w7 ⟨rfl, hb7⟩
            have hB7' := below_trans hB6' hb7
            have hB7 := below_trans hB6 hb7
            have q0 := below_cell hb7 q0
            have z0 := below_cell hb7 z0
            have q1 := below_cell hb7 q1
            have z1 := below_cell hb7 z1
            have q2 := below_cell hb7 q2
            have z2 := below_cell hb7 z2
            have q3 := below_cell hb7 q3
            have z3 := below_cell hb7 z3
            have q4 := below_cell hb7 q4
            have z4 := below_cell hb7 z4
            have q5 := below_cell hb7 q5
            have z5 := below_cell hb7 z5
            clear hb7 hB6 hB6'
            cases ha2 : apartB A4 A5 O4 O5 with
            | true =>
              have HA2 := Lib.hid ha2
              go_wp2_with fail
              go_roundw
              case rel => exact ⟨k + 1, by omega, by go_num, hB7', by unfold Hid; rw [HT.out, HST.out, HW.out]; simp [HA0.out, HA1.out, HA2.out]; congr 1; omega, by unfold Hid; rw [HE.out, HSE.out, HW.out]; simp [HA0.out, HA1.out, HA2.out]; congr 1; omega⟩
              case measure => simp [intOf]; omega
            | false =>
              have HA2 := Lib.hid ha2
              go_wp2_with fail
              go_ret2
              refine ⟨ret_tup2 (vint ?_) (vint ?_), (by repeat (first | exact Below.refl _ _ | assumption | refine balloc ?_ _ | refine below_trans ?_ (by assumption) | refine Below.drew ?_ | refine below_drewN ?_ _ | refine Below.setCell ?_ (by simp <;> omega) _))⟩
              · rw [HT.out, HST.out, HW.out]; simp [HA0.out, HA1.out, HA2.out]
              · rw [HE.out, HSE.out, HW.out]; simp [HA0.out, HA1.out, HA2.out]
    · obtain rfl : k = (hi + 1 - lo).toNat := by omega
      go_wp2_with fail
      go_ret2
      refine ⟨ret_tup2 (vint ?_) (vint ?_), (by repeat (first | exact Below.refl _ _ | assumption | refine balloc ?_ _ | refine below_trans ?_ (by assumption) | refine Below.drew ?_ | refine below_drewN ?_ _ | refine Below.setCell ?_ (by simp <;> omega) _))⟩
      · rw [HT.out, Nat.sub_self]; rfl
      · rw [HE.out, Nat.sub_self]; rfl

end Go.Proofs.YtmglbegbijofkaaGreatDoor
