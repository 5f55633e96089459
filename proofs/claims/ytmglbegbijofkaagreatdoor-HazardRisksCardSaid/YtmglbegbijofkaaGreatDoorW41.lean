import Derived.Test.YtmglbegbijofkaaGreatDoorW40
import Derived.Test.YtmglbegbijofkaaGreatDoorW8
set_option linter.unusedVariables false
set_option linter.unusedSimpArgs false
namespace Go.Proofs.YtmglbegbijofkaaGreatDoor
open Go.RowKit

def St.zero : St := ⟨0, 0, 0, 0, 0, 0, 0, 0, 0, 0, 0, 0⟩
def stAt (l : List St) (k : Nat) : St := l.getD k St.zero
def stF (l : List St) (i : Nat) : Value := (stAt l (i / 12)).cs.getD (i % 12) undef
abbrev StatesAt (w : World) (v : Value) (l : List St) : Prop := RowAt w v l.length 12 (stF l)
theorem st_cells {w : World} {b off : Nat} {l : List St} {k : Nat} (hc : ∀ i, i < l.length * 12 → w.cell? ⟨b, off + i, none⟩ = some (stF l i)) (hk : k < l.length) :
    w.cell? ⟨b, off + k * 12, none⟩ = some (.int .i64 (stAt l k).xl) ∧ w.cell? ⟨b, off + k * 12 + 1, none⟩ = some (.int .i64 (stAt l k).xh) ∧ w.cell? ⟨b, off + k * 12 + 2, none⟩ = some (.int .i64 (stAt l k).yl) ∧ w.cell? ⟨b, off + k * 12 + 3, none⟩ = some (.int .i64 (stAt l k).yh) ∧ w.cell? ⟨b, off + k * 12 + 4, none⟩ = some (.int .i64 (stAt l k).zl) ∧ w.cell? ⟨b, off + k * 12 + 5, none⟩ = some (.int .i64 (stAt l k).zh) ∧ w.cell? ⟨b, off + k * 12 + 6, none⟩ = some (.int .i64 (stAt l k).ul) ∧ w.cell? ⟨b, off + k * 12 + 7, none⟩ = some (.int .i64 (stAt l k).uh) ∧ w.cell? ⟨b, off + k * 12 + 8, none⟩ = some (.int .i64 (stAt l k).vl) ∧ w.cell? ⟨b, off + k * 12 + 9, none⟩ = some (.int .i64 (stAt l k).vh) ∧ w.cell? ⟨b, off + k * 12 + 10, none⟩ = some (.int .i64 (stAt l k).wl) ∧ w.cell? ⟨b, off + k * 12 + 11, none⟩ = some (.int .i64 (stAt l k).wh) := by
  have h := fun j (hj : j < 12) => (hc (k * 12 + j) (by omega)).trans (congrArg some (show stF l (k * 12 + j) = (stAt l k).cs.getD j undef by unfold stF; rw [show (k * 12 + j) % 12 = j by omega, show (k * 12 + j) / 12 = k by omega]))
  refine ⟨?_, ?_, ?_, ?_, ?_, ?_, ?_, ?_, ?_, ?_, ?_, ?_⟩
  · exact h 0 (by omega)
  · rw [Nat.add_assoc]; exact h 1 (by omega)
  · rw [Nat.add_assoc]; exact h 2 (by omega)
  · rw [Nat.add_assoc]; exact h 3 (by omega)
  · rw [Nat.add_assoc]; exact h 4 (by omega)
  · rw [Nat.add_assoc]; exact h 5 (by omega)
  · rw [Nat.add_assoc]; exact h 6 (by omega)
  · rw [Nat.add_assoc]; exact h 7 (by omega)
  · rw [Nat.add_assoc]; exact h 8 (by omega)
  · rw [Nat.add_assoc]; exact h 9 (by omega)
  · rw [Nat.add_assoc]; exact h 10 (by omega)
  · rw [Nat.add_assoc]; exact h 11 (by omega)
set_option maxRecDepth 100000 in
set_option maxHeartbeats 800000 in
theorem idx162 (v : Value) (l : List St) (w : World) (hv : StatesAt w v l) (hn : l.length ≤ 1000000) :
    Calls Tryz.prog 162 #[v, .func (.func 111) #[] #[]] w fun e w' => e = .returned (.int .i64 (idxFrom (fun j => (stAt l j).bad) l.length 0)) ∧ Below w.heap.size w w' := by
  obtain ⟨a, c, rfl, hx⟩ := id hv
  clear hx
  have HV := Lib.hid hv
  clear hv
  have HP : Hid (∀ k, k < l.length → idxFrom (fun j => (stAt l j).bad) (l.length - k) k = if (stAt l k).bad then (k : Int) else idxFrom (fun j => (stAt l j).bad) (l.length - (k + 1)) (k + 1)) := fun k hk => by
    rw [show l.length - k = (l.length - (k + 1)) + 1 by omega]; rfl
  have H0 : Hid (∀ k, idxFrom (fun j => (stAt l j).bad) 0 k = -1) := fun k => rfl
  obtain ⟨P, hP⟩ : ∃ P : Nat → Bool, P = fun j => (stAt l j).bad := ⟨_, rfl⟩
  rw [← hP] at HP H0 ⊢
  clear hP
  go_enter Tryz.func162, Tryz.ntmps162
  go_wp2_with fail
  go_loopw [8] (fun i wr => ∃ k : Nat, k ≤ l.length ∧ i = .int .i64 k ∧ Below w.heap.size w wr ∧ Hid (idxFrom P l.length 0 = idxFrom P (l.length - k) k)) (fun i _ => l.length - (intOf i).toNat)
  case atStart => exact ⟨0, Nat.zero_le _, rfl, Below.refl _ _, rfl⟩
  case round =>
    obtain ⟨k, hk, rfl, hB, HI⟩ := hrel
    by_cases hlt : k < l.length
    · obtain ⟨a', c', hac, h0 | ⟨b, off, rfl, hb, hc⟩⟩ := HV.out.below hB
      · omega
      · simp only [Value.slice.injEq] at hac
        obtain ⟨rfl, _, rfl⟩ := hac
        obtain ⟨s0, s1, s2, s3, s4, s5, s6, s7, s8, s9, s10, s11⟩ := st_cells hc hlt
        have HS1 := Lib.hid (HP.out k hlt)
        have HG := Lib.hid (fun W => empty111 (stAt l k) W)
        unfold St.cs at HG
        clear hc
        generalize (stAt l k).bad = bb at *
        generalize stAt l k = x at *
        cases bb with
        | true =>
          go_wp2_with fail
          refine (HG.out _).mono ?_
          rintro e w2 ⟨rfl, hb2⟩
          have hB2 := below_trans hB hb2
          clear s0 s1 s2 s3 s4 s5 s6 s7 s8 s9 s10 s11
          go_wp2_with fail
          go_ret
          exact ⟨ret_int (by rw [HI.out, HS1.out]; rfl), hB2⟩
        | false =>
          go_wp2_with fail
          refine (HG.out _).mono ?_
          rintro e w2 ⟨rfl, hb2⟩
          have hB2 := below_trans hB hb2
          clear s0 s1 s2 s3 s4 s5 s6 s7 s8 s9 s10 s11
          go_wp2_with fail
          go_roundw
          case rel => exact ⟨k + 1, by omega, by go_num, hB2, by unfold Hid; rw [HI.out, HS1.out]; rfl⟩
          case measure => simp [intOf]; omega
    · obtain rfl : k = l.length := by omega
      go_wp2_with fail
      go_ret
      exact ⟨ret_int (by rw [HI.out, Nat.sub_self, H0.out]), hB⟩
def stAny (l : List St) : Bool := anyB (fun j => (stAt l j).bad) l.length
set_option maxHeartbeats 400000 in
theorem contains114 (v : Value) (l : List St) (w : World) (hv : StatesAt w v l) (hn : l.length ≤ 1000000) :
    Calls Tryz.prog 114 #[v, .func (.func 111) #[] #[]] w fun e w' => e = .returned (.bool (stAny l)) ∧ Below w.heap.size w w' := by
  have HV := Lib.hid hv
  clear hv
  have HE : Hid (stAny l = decide (0 ≤ idxFrom (fun j => (stAt l j).bad) l.length 0)) := show _ = _ from rfl
  have HC := Lib.hid (fun W h => idx162 v l W h hn)
  generalize idxFrom (fun j => (stAt l j).bad) l.length 0 = r at *
  go_enter Tryz.func114, Tryz.ntmps114
  go_wp2_with fail
  refine (HC.out _ HV.out).mono ?_
  rintro e w2 ⟨rfl, hb2⟩
  go_wp2_with fail
  all_goals (go_ret; refine ⟨ret_bool ?_, hb2⟩)
  all_goals (rw [HE.out]; first | done | simp [*])
set_option maxRecDepth 100000 in
set_option maxHeartbeats 800000 in
theorem rwhole_any (s : St) (w : World) : Calls Tryz.prog 116 #[.agg s.cs] w fun e w' => e = .returned (.bool (!s.bad)) ∧ Below w.heap.size w w' := by
  have HE := Lib.hid s.bad_eq
  generalize s.bad = bb at *
  obtain ⟨xl, xh, yl, yh, zl, zh, ul, uh, vl, vh, wl, wh⟩ := s
  unfold St.cs
  simp only at HE ⊢
  go_enter Tryz.func116, Tryz.ntmps116
  go_wp2_with fail
  all_goals (go_ret; refine ⟨ret_bool ?_, (by repeat (first | exact Below.refl _ _ | assumption | refine balloc ?_ _ | refine below_trans ?_ (by assumption) | refine Below.drew ?_ | refine below_drewN ?_ _ | refine Below.setCell ?_ (by simp <;> omega) _))⟩)
  all_goals (rw [HE.out, Bool.eq_iff_iff])
  all_goals (simp only [Bool.not_eq_true', Bool.or_eq_false_iff, decide_eq_false_iff_not, decide_eq_true_eq, Bool.false_eq_true, false_iff])
  all_goals omega

set_option maxRecDepth 100000 in
set_option maxHeartbeats 4000000 in
theorem first115 (bx bc : Nat) (o : Int → Int × Int × Int × Int × Int × Int) (nm : ByteArray) (speed climb low high : Int) (v : Value) (ss : List Sight) (lo hi : Int) (w : World) (hv : SightsAt w v ss) (hok : CraftOK speed climb low high ss)
    (hl : 0 ≤ lo) (hh : hi ≤ 100000) (hlh : lo ≤ hi + 1) (hof : RoomOf 115 #[.pointer (some ⟨bx, 0, none⟩), .pointer (some ⟨bc, 0, none⟩)] o lo hi w) :
    Calls Tryz.prog 98 #[.agg #[.string nm, .int .i64 speed, .int .i64 climb, .int .i64 low, .int .i64 high, v], .agg #[.int .i64 lo, .int .i64 hi], .func (.func 115) #[] #[.pointer (some ⟨bx, 0, none⟩), .pointer (some ⟨bc, 0, none⟩)]] w fun e w' =>
      e = ErrPair (firstT speed climb low high ss o (hi + 1 - lo).toNat lo) (firstE speed climb low high ss o (hi + 1 - lo).toNat lo) ∧ Below w.heap.size w w' := by
  obtain ⟨a, c, rfl, hx⟩ := id hv
  clear hx
  have hbx : ∀ i : Nat, i < 6 → ((w.alloc (.cells #[.string nm, .int .i64 speed, .int .i64 climb, .int .i64 low, .int .i64 high, .slice a ss.length c] 63)).alloc (.cells #[.int .i64 lo, .int .i64 hi] 23)).cell? ⟨w.heap.size, i, none⟩ = some (#[Value.string nm, .int .i64 speed, .int .i64 climb, .int .i64 low, .int .i64 high, .slice a ss.length c].getD i undef) := by
    intro i hi
    have : i = 0 ∨ i = 1 ∨ i = 2 ∨ i = 3 ∨ i = 4 ∨ i = 5 := by omega
    rcases this with rfl | rfl | rfl | rfl | rfl | rfl <;> simp
  have htk : ((w.alloc (.cells #[.string nm, .int .i64 speed, .int .i64 climb, .int .i64 low, .int .i64 high, .slice a ss.length c] 63)).alloc (.cells #[.int .i64 lo, .int .i64 hi] 23)).cell? ⟨w.heap.size + 1, 1, none⟩ = some (.int .i64 hi) := by simp
  have hW1 : Below w.heap.size w ((w.alloc (.cells #[.string nm, .int .i64 speed, .int .i64 climb, .int .i64 low, .int .i64 high, .slice a ss.length c] 63)).alloc (.cells #[.int .i64 lo, .int .i64 hi] 23)) := (by repeat (first | exact Below.refl _ _ | assumption | refine balloc ?_ _ | refine below_trans ?_ (by assumption) | refine Below.drew ?_ | refine below_drewN ?_ _ | refine Below.setCell ?_ (by simp <;> omega) _))
  have hsz1 : w.heap.size + 2 ≤ ((w.alloc (.cells #[.string nm, .int .i64 speed, .int .i64 climb, .int .i64 low, .int .i64 high, .slice a ss.length c] 63)).alloc (.cells #[.int .i64 lo, .int .i64 hi] 23)).heap.size := by simp
  have HV := Lib.hid hv
  have HOF := Lib.hid hof
  have HOK := Lib.hid hok
  clear hv hof hok
  go_enter Tryz.func98, Tryz.ntmps98
  go_wp2_with fail
  generalize ((w.alloc (.cells #[.string nm, .int .i64 speed, .int .i64 climb, .int .i64 low, .int .i64 high, .slice a ss.length c] 63)).alloc (.cells #[.int .i64 lo, .int .i64 hi] 23)) = W1 at *
  have HBX := Lib.hid hbx
  have HTK := Lib.hid htk
  clear hbx htk
  go_loopw [8] (fun t wr => ∃ k : Nat, k ≤ (hi + 1 - lo).toNat ∧ t = .int .i64 (lo + k) ∧ Below W1.heap.size W1 wr ∧ Hid (firstT speed climb low high ss o (hi + 1 - lo).toNat lo = firstT speed climb low high ss o ((hi + 1 - lo).toNat - k) (lo + k)) ∧ Hid (firstE speed climb low high ss o (hi + 1 - lo).toNat lo = firstE speed climb low high ss o ((hi + 1 - lo).toNat - k) (lo + k))) (fun t _ => (hi + 1 - intOf t).toNat)
  case atStart => exact ⟨0, Nat.zero_le _, by simp, Below.refl _ _, by simp [Hid], by simp [Hid]⟩
  case round =>
    obtain ⟨k, hk, rfl, hBw, HT, HE⟩ := hrel
    have htk := (hBw.cell (p := ⟨w.heap.size + 1, 1, none⟩) (show w.heap.size + 1 < W1.heap.size by omega)).trans HTK.out
    by_cases hlt : lo + k ≤ hi
    · have b0 := (hBw.cell (p := ⟨w.heap.size, 0, none⟩) (show w.heap.size < W1.heap.size by omega)).trans (HBX.out 0 (by omega))
      have b1 := (hBw.cell (p := ⟨w.heap.size, 1, none⟩) (show w.heap.size < W1.heap.size by omega)).trans (HBX.out 1 (by omega))
      have b2 := (hBw.cell (p := ⟨w.heap.size, 2, none⟩) (show w.heap.size < W1.heap.size by omega)).trans (HBX.out 2 (by omega))
      have b3 := (hBw.cell (p := ⟨w.heap.size, 3, none⟩) (show w.heap.size < W1.heap.size by omega)).trans (HBX.out 3 (by omega))
      have b4 := (hBw.cell (p := ⟨w.heap.size, 4, none⟩) (show w.heap.size < W1.heap.size by omega)).trans (HBX.out 4 (by omega))
      have b5 := (hBw.cell (p := ⟨w.heap.size, 5, none⟩) (show w.heap.size < W1.heap.size by omega)).trans (HBX.out 5 (by omega))
      simp at b0 b1 b2 b3 b4 b5
      have hBv : Below w.heap.size w wr := below_trans hW1 hBw
      have hrow := Lib.hid (HV.out.below hBv)
      have HST : Hid (firstT speed climb low high ss o ((hi + 1 - lo).toNat - k) (lo + k) = if !whB speed climb low high (lo + k) ss then 0 else if roomB speed climb low high (lo + k) ss (o (lo + k)).1 (o (lo + k)).2.1 (o (lo + k)).2.2.1 (o (lo + k)).2.2.2.1 (o (lo + k)).2.2.2.2.1 (o (lo + k)).2.2.2.2.2 then lo + k else firstT speed climb low high ss o ((hi + 1 - lo).toNat - (k + 1)) (lo + k + 1)) := show _ = _ from by rw [show (hi + 1 - lo).toNat - k = ((hi + 1 - lo).toNat - (k + 1)) + 1 by omega]; rfl
      have HSE : Hid (firstE speed climb low high ss o ((hi + 1 - lo).toNat - k) (lo + k) = if !whB speed climb low high (lo + k) ss then 9 else if roomB speed climb low high (lo + k) ss (o (lo + k)).1 (o (lo + k)).2.1 (o (lo + k)).2.2.1 (o (lo + k)).2.2.2.1 (o (lo + k)).2.2.2.2.1 (o (lo + k)).2.2.2.2.2 then 0 else firstE speed climb low high ss o ((hi + 1 - lo).toNat - (k + 1)) (lo + k + 1)) := show _ = _ from by rw [show (hi + 1 - lo).toNat - k = ((hi + 1 - lo).toNat - (k + 1)) + 1 by omega]; rfl
      go_wp2_with fail
      refine (where_any _ _ _ _ _ _ _ _ _ hrow.out (by omega) (by omega) HOK.out.s0 HOK.out.s1 HOK.out.c0 HOK.out.c1 HOK.out.n0 HOK.out.n1 HOK.out.sg).mono ?_
      rintro e w2 ⟨rfl, hb2⟩
      unfold WhereEnd
      cases hwb : whB speed climb low high (lo + k) ss with
      | false =>
        have HW := Lib.hid hwb
        clear hwb
        go_wp2_with fail
        go_ret2
        refine ⟨ret_tup2 (vint ?_) (vint ?_), (by repeat (first | exact Below.refl _ _ | assumption | refine balloc ?_ _ | refine below_trans ?_ (by assumption) | refine Below.drew ?_ | refine below_drewN ?_ _ | refine Below.setCell ?_ (by simp <;> omega) _))⟩
        · rw [HT.out, HST.out, HW.out]; rfl
        · rw [HE.out, HSE.out, HW.out]; rfl
      | true =>
        have HW := Lib.hid hwb
        clear hwb
        have HR : Hid (roomB speed climb low high (lo + k) ss (o (lo + k)).1 (o (lo + k)).2.1 (o (lo + k)).2.2.1 (o (lo + k)).2.2.2.1 (o (lo + k)).2.2.2.2.1 (o (lo + k)).2.2.2.2.2 = (!apartB (whXL speed (lo + k) ss) (whXH speed (lo + k) ss) (o (lo + k)).1 (o (lo + k)).2.1 && !apartB (whYL speed (lo + k) ss) (whYH speed (lo + k) ss) (o (lo + k)).2.2.1 (o (lo + k)).2.2.2.1 && !apartB (whZL climb low (lo + k) ss) (whZH climb high (lo + k) ss) (o (lo + k)).2.2.2.2.1 (o (lo + k)).2.2.2.2.2)) := show _ = _ from rfl
        have hof := HOF.out (lo + k) (by omega) (by omega)
        rw [HR.out] at HST HSE
        have HF := Lib.hid hof
        clear hof HR
        generalize whXL speed (lo + k) ss = A0 at *
        generalize whXH speed (lo + k) ss = A1 at *
        generalize whYL speed (lo + k) ss = A2 at *
        generalize whYH speed (lo + k) ss = A3 at *
        generalize whZL climb low (lo + k) ss = A4 at *
        generalize whZH climb high (lo + k) ss = A5 at *
        go_wp2_with fail
        have hB2 : Below w.heap.size w (w2.alloc (.cells #[.int .i64 A0, .int .i64 A1, .int .i64 A2, .int .i64 A3, .int .i64 A4, .int .i64 A5] 161)) := (by repeat (first | exact Below.refl _ _ | assumption | refine balloc ?_ _ | refine below_trans ?_ (by assumption) | refine Below.drew ?_ | refine below_drewN ?_ _ | refine Below.setCell ?_ (by simp <;> omega) _))
        refine (HF.out _ hB2).mono ?_
        rintro e w3 ⟨rfl, hb3⟩
        clear HF
        generalize (o (lo + k)).1 = O0 at *
        generalize (o (lo + k)).2.1 = O1 at *
        generalize (o (lo + k)).2.2.1 = O2 at *
        generalize (o (lo + k)).2.2.2.1 = O3 at *
        generalize (o (lo + k)).2.2.2.2.1 = O4 at *
        generalize (o (lo + k)).2.2.2.2.2 = O5 at *
        have hB3 : Below w.heap.size w w3 := below_trans hB2 hb3
        have hB3' : Below W1.heap.size W1 w3 := below_trans (balloc (below_trans hBw hb2) _) hb3
        have hz3 : w2.heap.size < w3.heap.size := by have := hb3.size; simp at this; omega
        have q0 : w3.cell? ⟨w2.heap.size, 0, none⟩ = some (.int .i64 A0) := below_cell hb3 (by simp)
        have q1 : w3.cell? ⟨w2.heap.size, 1, none⟩ = some (.int .i64 A1) := below_cell hb3 (by simp)
        have q2 : w3.cell? ⟨w2.heap.size, 2, none⟩ = some (.int .i64 A2) := below_cell hb3 (by simp)
        have q3 : w3.cell? ⟨w2.heap.size, 3, none⟩ = some (.int .i64 A3) := below_cell hb3 (by simp)
        have q4 : w3.cell? ⟨w2.heap.size, 4, none⟩ = some (.int .i64 A4) := below_cell hb3 (by simp)
        have q5 : w3.cell? ⟨w2.heap.size, 5, none⟩ = some (.int .i64 A5) := below_cell hb3 (by simp)
        clear hb3 hB2 hb2 hBw hBv b0 b1 b2 b3 b4 b5 htk hrow
        go_wp2_with fail
        have z0 : (w3.alloc (.cells #[.int .i64 O0, .int .i64 O1, .int .i64 O2, .int .i64 O3, .int .i64 O4, .int .i64 O5] 161)).cell? ⟨w3.heap.size, 0, none⟩ = some (.int .i64 O0) := by simp
        have z1 : (w3.alloc (.cells #[.int .i64 O0, .int .i64 O1, .int .i64 O2, .int .i64 O3, .int .i64 O4, .int .i64 O5] 161)).cell? ⟨w3.heap.size, 1, none⟩ = some (.int .i64 O1) := by simp
        have z2 : (w3.alloc (.cells #[.int .i64 O0, .int .i64 O1, .int .i64 O2, .int .i64 O3, .int .i64 O4, .int .i64 O5] 161)).cell? ⟨w3.heap.size, 2, none⟩ = some (.int .i64 O2) := by simp
        have z3 : (w3.alloc (.cells #[.int .i64 O0, .int .i64 O1, .int .i64 O2, .int .i64 O3, .int .i64 O4, .int .i64 O5] 161)).cell? ⟨w3.heap.size, 3, none⟩ = some (.int .i64 O3) := by simp
        have z4 : (w3.alloc (.cells #[.int .i64 O0, .int .i64 O1, .int .i64 O2, .int .i64 O3, .int .i64 O4, .int .i64 O5] 161)).cell? ⟨w3.heap.size, 4, none⟩ = some (.int .i64 O4) := by simp
        have z5 : (w3.alloc (.cells #[.int .i64 O0, .int .i64 O1, .int .i64 O2, .int .i64 O3, .int .i64 O4, .int .i64 O5] 161)).cell? ⟨w3.heap.size, 5, none⟩ = some (.int .i64 O5) := by simp
        have q0 : (w3.alloc (.cells #[.int .i64 O0, .int .i64 O1, .int .i64 O2, .int .i64 O3, .int .i64 O4, .int .i64 O5] 161)).cell? ⟨w2.heap.size, 0, none⟩ = some (.int .i64 A0) := alloc_cell q0 _
        have q1 : (w3.alloc (.cells #[.int .i64 O0, .int .i64 O1, .int .i64 O2, .int .i64 O3, .int .i64 O4, .int .i64 O5] 161)).cell? ⟨w2.heap.size, 1, none⟩ = some (.int .i64 A1) := alloc_cell q1 _
        have q2 : (w3.alloc (.cells #[.int .i64 O0, .int .i64 O1, .int .i64 O2, .int .i64 O3, .int .i64 O4, .int .i64 O5] 161)).cell? ⟨w2.heap.size, 2, none⟩ = some (.int .i64 A2) := alloc_cell q2 _
        have q3 : (w3.alloc (.cells #[.int .i64 O0, .int .i64 O1, .int .i64 O2, .int .i64 O3, .int .i64 O4, .int .i64 O5] 161)).cell? ⟨w2.heap.size, 3, none⟩ = some (.int .i64 A3) := alloc_cell q3 _
        have q4 : (w3.alloc (.cells #[.int .i64 O0, .int .i64 O1, .int .i64 O2, .int .i64 O3, .int .i64 O4, .int .i64 O5] 161)).cell? ⟨w2.heap.size, 4, none⟩ = some (.int .i64 A4) := alloc_cell q4 _
        have q5 : (w3.alloc (.cells #[.int .i64 O0, .int .i64 O1, .int .i64 O2, .int .i64 O3, .int .i64 O4, .int .i64 O5] 161)).cell? ⟨w2.heap.size, 5, none⟩ = some (.int .i64 A5) := alloc_cell q5 _
        have hB4 : Below w.heap.size w (w3.alloc (.cells #[.int .i64 O0, .int .i64 O1, .int .i64 O2, .int .i64 O3, .int .i64 O4, .int .i64 O5] 161)) := balloc hB3 _
        have hB4' : Below W1.heap.size W1 (w3.alloc (.cells #[.int .i64 O0, .int .i64 O1, .int .i64 O2, .int .i64 O3, .int .i64 O4, .int .i64 O5] 161)) := balloc hB3' _
        clear hB3 hB3'
        generalize (w3.alloc (.cells #[.int .i64 O0, .int .i64 O1, .int .i64 O2, .int .i64 O3, .int .i64 O4, .int .i64 O5] 161)) = w4 at *
        generalize w3.heap.size = r3 at *
        generalize w2.heap.size = r2 at *
        refine (apart_any _ _ _ _ _).mono ?_
        rintro e w5 ⟨rfl, hb5⟩
        have hB5' := below_trans hB4' hb5
        have hB5 := below_trans hB4 hb5
        have q0 := below_cell hb5 q0
        have z0 := below_cell hb5 z0
        have q1 := below_cell hb5 q1
        have z1 := below_cell hb5 z1
        have q2 := below_cell hb5 q2
        have z2 := below_cell hb5 z2
        have q3 := below_cell hb5 q3
        have z3 := below_cell hb5 z3
        have q4 := below_cell hb5 q4
        have z4 := below_cell hb5 z4
        have q5 := below_cell hb5 q5
        have z5 := below_cell hb5 z5
        clear hb5 hB4 hB4'
        cases ha0 : apartB A0 A1 O0 O1 with
        | true =>
          have HA0 := Lib.hid ha0
          go_wp2_with fail
          go_roundw
          case rel => exact ⟨k + 1, by omega, by go_num, hB5', by unfold Hid; rw [HT.out, HST.out, HW.out]; simp [HA0.out]; congr 1; omega, by unfold Hid; rw [HE.out, HSE.out, HW.out]; simp [HA0.out]; congr 1; omega⟩
          case measure => simp [intOf]; omega
        | false =>
          have HA0 := Lib.hid ha0
          go_wp2_with fail
          refine (apart_any _ _ _ _ _).mono ?_
          rintro e w6 ⟨rfl, hb6⟩
          have hB6' := below_trans hB5' hb6
          have hB6 := below_trans hB5 hb6
          have q0 := below_cell hb6 q0
          have z0 := below_cell hb6 z0
          have q1 := below_cell hb6 q1
          have z1 := below_cell hb6 z1
          have q2 := below_cell hb6 q2
          have z2 := below_cell hb6 z2
          have q3 := below_cell hb6 q3
          have z3 := below_cell hb6 z3
          have q4 := below_cell hb6 q4
          have z4 := below_cell hb6 z4
          have q5 := below_cell hb6 q5
          have z5 := below_cell hb6 z5
          clear hb6 hB5 hB5'
          cases ha1 : apartB A2 A3 O2 O3 with
          | true =>
            have HA1 := Lib.hid ha1
            go_wp2_with fail
            go_roundw
            case rel => exact ⟨k + 1, by omega, by go_num, hB6', by unfold Hid; rw [HT.out, HST.out, HW.out]; simp [HA0.out, HA1.out]; congr 1; omega, by unfold Hid; rw [HE.out, HSE.out, HW.out]; simp [HA0.out, HA1.out]; congr 1; omega⟩
            case measure => simp [intOf]; omega
          | false =>
            have HA1 := Lib.hid ha1
            go_wp2_with fail
            refine (apart_any _ _ _ _ _).mono ?_
            rintro e w7 ⟨rfl, hb7⟩
            have hB7' := below_trans hB6' hb7
            have hB7 := below_trans hB6 hb7
            have q0 := below_cell hb7 q0
            have z0 := below_cell hb7 z0
            have q1 := below_cell hb7 q1
            have z1 := below_cell hb7 z1
            have q2 := below_cell hb7 q2
            have z2 := below_cell hb7 z2
            have q3 := below_cell hb7 q3
            have z3 := below_cell hb7 z3
            have q4 := below_cell hb7 q4
            have z4 := below_cell hb7 z4
            have q5 := below_cell hb7 q5
            have z5 := below_cell hb7 z5
            clear hb7 hB6 hB6'
            cases ha2 : apartB A4 A5 O4 O5 with
            | true =>
              have HA2 := Lib.hid ha2
              go_wp2_with fail
              go_roundw
              case rel => exact ⟨k + 1, by omega, by go_num, hB7', by unfold Hid; rw [HT.out, HST.out, HW.out]; simp [HA0.out, HA1.out, HA2.out]; congr 1; omega, by unfold Hid; rw [HE.out, HSE.out, HW.out]; simp [HA0.out, HA1.out, HA2.out]; congr 1; omega⟩
              case measure => simp [intOf]; omega
            | false =>
              have HA2 := Lib.hid ha2
              go_wp2_with fail
              go_ret2
              refine ⟨ret_tup2 (vint ?_) (vint ?_), (by repeat (first | exact Below.refl _ _ | assumption | refine balloc ?_ _ | refine below_trans ?_ (by assumption) | refine Below.drew ?_ | refine below_drewN ?_ _ | refine Below.setCell ?_ (by simp <;> omega) _))⟩
              · rw [HT.out, HST.out, HW.out]; simp [HA0.out, HA1.out, HA2.out]
              · rw [HE.out, HSE.out, HW.out]; simp [HA0.out, HA1.out, HA2.out]
    · obtain rfl : k = (hi + 1 - lo).toNat := by omega
      go_wp2_with fail
      go_ret2
      refine ⟨ret_tup2 (vint ?_) (vint ?_), (by repeat (first | exact Below.refl _ _ | assumption | refine balloc ?_ _ | refine below_trans ?_ (by assumption) | refine Below.drew ?_ | refine below_drewN ?_ _ | refine Below.setCell ?_ (by simp <;> omega) _))⟩
      · rw [HT.out, Nat.sub_self]; rfl
      · rw [HE.out, Nat.sub_self]; rfl


end Go.Proofs.YtmglbegbijofkaaGreatDoor
