import Derived.Test.YtmglbegbijofkaaGreatDoorW2
import Derived.Test.YtmglbegbijofkaaGreatDoorPA
set_option linter.unusedVariables false
set_option linter.unusedSimpArgs false
namespace Go.Proofs.YtmglbegbijofkaaGreatDoor
open Go.RowKit

/-- 'v' is a slice of n elements, k cells each, that lies in w and holds f -/
def RowAt (w : World) (v : Value) (n k : Nat) (f : Nat → Value) : Prop :=
  ∃ a c, v = .slice a n c ∧ (n = 0 ∨ ∃ b off, a = some ⟨b, off, none⟩ ∧ b < w.heap.size ∧ ∀ i, i < n * k → w.cell? ⟨b, off + i, none⟩ = some (f i))
theorem RowAt.below {w w' : World} {v : Value} {n k : Nat} {f : Nat → Value} (h : RowAt w v n k f) (hb : Below w.heap.size w w') : RowAt w' v n k f := by
  obtain ⟨a, c, rfl, h | ⟨b, off, rfl, h1, h2⟩⟩ := h
  · exact ⟨a, c, rfl, .inl h⟩
  · exact ⟨_, c, rfl, .inr ⟨b, off, rfl, Nat.lt_of_lt_of_le h1 hb.size, fun i hi => (hb.cell (p := ⟨b, off + i, none⟩) h1).trans (h2 i hi)⟩⟩
def intF (zs : List Int) (i : Nat) : Value := .int .i64 (zs[i]?.getD 0)
abbrev IntsAt (w : World) (v : Value) (zs : List Int) : Prop := RowAt w v zs.length 1 (intF zs)

set_option maxHeartbeats 400000 in
theorem check1_any (n : Int) (w : World) : Calls Tryz.prog 101 #[.int .i64 n] w fun e w' => e = .returned (.bool (outP n)) ∧ w = w' := by
  go_enter Tryz.func101, Tryz.ntmps101
  go_wp2_with (go_at_call 64; refine (out_any _ _ _ _).mono ?_; rintro e w' ⟨rfl, rfl⟩)
  go_ret; exact ⟨rfl, rfl⟩

set_option maxHeartbeats 400000 in
theorem indexCheck_any (v : Value) (zs : List Int) (w : World) (hv : IntsAt w v zs) (hn : zs.length ≤ 9223372036854775806) :
    Calls Tryz.prog 100 #[v, .func (.func 101) #[] #[]] w fun e w' => e = .returned (.int .i64 (idxP outP zs 0)) ∧ w = w' := by
  obtain ⟨a, c, rfl, hr⟩ := hv
  go_enter Tryz.func100, Tryz.ntmps100
  go_wp2_with fail
  go_loop [8] (fun i => ∃ k : Nat, k ≤ zs.length ∧ i = .int .i64 k ∧ Hid (idxP outP zs 0 = idxP outP (zs.drop k) k)) (fun i => zs.length - (intOf i).toNat)
  case atStart => exact ⟨0, Nat.zero_le _, rfl, rfl⟩
  case round =>
    obtain ⟨k, hk, rfl, HI⟩ := hrel
    by_cases hlt : k < zs.length
    · rcases hr with h0 | ⟨b, off, rfl, hb, hc⟩
      · omega
      · have hck := hc k (by omega)
        unfold intF at hck
        have HS := Lib.hid (idxP_drop outP zs k hlt)
        go_wp2_with (go_at_call 101; refine (check1_any _ _).mono ?_; rintro e w' ⟨rfl, rfl⟩)
        · go_ret
          exact ⟨ret_int (by rw [HI.out, HS.out, if_pos ‹_›]), rfl⟩
        · go_round
          case rel => exact ⟨k + 1, by omega, by go_num, by unfold Hid; rw [HI.out, HS.out, if_neg (by simp [*])]⟩
          case measure => simp [intOf]; omega
    · obtain rfl : k = zs.length := by omega
      go_wp2_with fail
      go_ret
      exact ⟨ret_int (by rw [HI.out, idxP_end]), rfl⟩

def ErrTup (p a e : Int) : Ending := .returned (.tuple #[.int .i64 p, .int .i64 a, .int .i64 e])

set_option maxHeartbeats 400000 in
theorem check_any (cx cy size cols rows : Int) (pv : Value) (zs : List Int) (w : World) (hv : IntsAt w pv zs) (hn : zs.length ≤ 9223372036854775806) :
    Calls Tryz.prog 35 #[.agg #[.int .i64 cx, .int .i64 cy, .int .i64 size, .int .i64 cols, .int .i64 rows, pv]] w fun e w' =>
      e = ErrTup (chkPart cx cy size cols rows zs) (chkAt cx cy size cols rows zs) (chkE cx cy size cols rows zs) ∧ Below w.heap.size w w' := by
  have hv1 := hv.below (balloc (Below.refl _ w) (.cells #[.int .i64 cx, .int .i64 cy, .int .i64 size, .int .i64 cols, .int .i64 rows, pv] 42))
  have ibd := idxP_bd outP zs 0 (by omega)
  obtain ⟨a, c, rfl, hx⟩ := hv
  clear hx
  have HV := Lib.hid hv1
  clear hv1
  by_cases hm : mapB cx cy size cols rows = true
  · have HM := Lib.hid hm
    clear hm
    go_enter Tryz.func35, Tryz.ntmps35
    go_wp2_with (first | (go_at_call 91; refine (off_any _ _).mono ?_; rintro e w' ⟨rfl, rfl⟩) | (go_at_call 64; refine (out_any _ _ _ _).mono ?_; rintro e w' ⟨rfl, rfl⟩) | (go_at_call 100; refine (indexCheck_any _ _ _ HV.out hn).mono ?_; rintro e w' ⟨rfl, rfl⟩))
    all_goals (go_ret3)
    all_goals (refine ⟨ret_tup3 (vint ?_) (vint ?_) (vint ?_), (by repeat (first | exact Below.refl _ _ | assumption | refine balloc ?_ _ | refine below_trans ?_ (by assumption) | refine Below.drew ?_ | refine below_drewN ?_ _ | refine Below.setCell ?_ (by simp <;> omega) _))⟩)
    all_goals (first | (simp [chkPart, chkAt, chkE, HM.out]; done) | (exfalso; have hx := HM.out; simp [mapB, *] at hx; done))
  · have hm' : mapB cx cy size cols rows = false := by simpa using hm
    have hbd := mapB_false.1 hm'
    have e1 : offB cx = false := offB_false.2 (by omega)
    have e2 : offB cy = false := offB_false.2 (by omega)
    have e3 : outB size 1 100000 = false := outB_false.2 (by omega)
    have e4 : outB cols 1 20 = false := outB_false.2 (by omega)
    have e5 : outB rows 1 20 = false := outB_false.2 (by omega)
    have p1 : 0 ≤ cols * rows := Int.mul_nonneg (by omega) (by omega)
    have p2 : cols * rows ≤ 400 := Int.le_trans (Int.mul_le_mul (c := 20) (d := 20) (by omega) (by omega) (by omega) (by omega)) (by omega)
    clear hbd
    have HM := Lib.hid hm'
    clear hm hm'
    go_enter Tryz.func35, Tryz.ntmps35
    go_wp2_with (first | (go_at_call 91; refine (off_any _ _).mono ?_; rintro e w' ⟨rfl, rfl⟩) | (go_at_call 64; refine (out_any _ _ _ _).mono ?_; rintro e w' ⟨rfl, rfl⟩) | (go_at_call 100; refine (indexCheck_any _ _ _ HV.out hn).mono ?_; rintro e w' ⟨rfl, rfl⟩))
    all_goals (go_ret3)
    all_goals (refine ⟨ret_tup3 (vint ?_) (vint ?_) (vint ?_), (by repeat (first | exact Below.refl _ _ | assumption | refine balloc ?_ _ | refine below_trans ?_ (by assumption) | refine Below.drew ?_ | refine below_drewN ?_ _ | refine Below.setCell ?_ (by simp <;> omega) _))⟩)
    all_goals (first
      | (have hx : (zs.length : Int) ≠ cols * rows := by (have hq : ((zs.length : Int) != cols * rows) = true := by assumption); simpa using hq)
      | (have hx : (zs.length : Int) = cols * rows := by (have hq : ((zs.length : Int) != cols * rows) = false := by assumption); simpa using hq))
    all_goals (first
      | (simp [chkPart, chkAt, chkE, HM.out, hx]; done)
      | (have hy : 0 ≤ idxP outP zs 0 := by assumption
         simp [chkPart, chkAt, chkE, HM.out, hx, hy]; done)
      | (have hy : ¬ 0 ≤ idxP outP zs 0 := by omega
         simp [chkPart, chkAt, chkE, HM.out, hx, hy]; done))

set_option maxHeartbeats 400000 in
theorem asked_any (cx cy size cols rows : Int) (pv : Value) (zs : List Int) (xl xh yl yh lethal cap : Int) (w : World) (hv : IntsAt w pv zs) (hn : zs.length ≤ 9223372036854775806) :
    Calls Tryz.prog 80 #[.agg #[.int .i64 cx, .int .i64 cy, .int .i64 size, .int .i64 cols, .int .i64 rows, pv], .agg #[.int .i64 xl, .int .i64 xh, .int .i64 yl, .int .i64 yh], .agg #[.int .i64 lethal, .int .i64 cap]] w fun e w' =>
      e = .returned (.int .i64 (askE cx cy size cols rows zs xl xh yl yh lethal cap)) ∧ Below w.heap.size w w' := by
  have hv1 := hv.below (balloc (balloc (balloc (Below.refl _ w) (.cells #[.int .i64 cx, .int .i64 cy, .int .i64 size, .int .i64 cols, .int .i64 rows, pv] 42)) (.cells #[.int .i64 xl, .int .i64 xh, .int .i64 yl, .int .i64 yh] 25)) (.cells #[.int .i64 lethal, .int .i64 cap] 44))
  obtain ⟨a, c, rfl, hx⟩ := hv
  clear hx
  have HV := Lib.hid hv1
  clear hv1
  go_enter Tryz.func80, Tryz.ntmps80
  go_wp2_with fail
  refine (check_any _ _ _ _ _ _ _ _ HV.out hn).mono ?_
  rintro e w1 ⟨rfl, hb1⟩
  obtain ⟨hc1, hf1⟩ := bcell hb1
  have hz1 := hb1.size
  simp at hz1
  have hx0 : w.heap.size < w1.heap.size := by omega
  have hx1 : w.heap.size + 1 < w1.heap.size := by omega
  have hx2 : w.heap.size + 2 < w1.heap.size := by omega
  clear hz1
  unfold ErrTup
  by_cases hz : chkE cx cy size cols rows zs = 0
  · have hz' : (chkE cx cy size cols rows zs != 0) = false := by simpa using hz
    have HZ := Lib.hid hz
    clear hz
    go_wp2_with (first | (go_at_call 89; refine (wild_any _ _ _ _ _).mono ?_; rintro e w' ⟨rfl, hb⟩; obtain ⟨hc, hf⟩ := bcell hb; have hz := hb.size; (try simp at hz)) | (go_at_call 64; refine (out_any _ _ _ _).mono ?_; rintro e w' ⟨rfl, rfl⟩))
    all_goals (go_ret; refine ⟨ret_int ?_, (by repeat (first | exact Below.refl _ _ | assumption | refine balloc ?_ _ | refine below_trans ?_ (by assumption) | refine Below.drew ?_ | refine below_drewN ?_ _ | refine Below.setCell ?_ (by simp <;> omega) _))⟩)
    all_goals (simp [askE, HZ.out, *]; done)
  · have hz' : (chkE cx cy size cols rows zs != 0) = true := by simpa using hz
    have HZ := Lib.hid hz
    clear hz
    go_wp2_with fail
    all_goals (go_ret; refine ⟨ret_int ?_, (by repeat (first | exact Below.refl _ _ | assumption | refine balloc ?_ _ | refine below_trans ?_ (by assumption) | refine Below.drew ?_ | refine below_drewN ?_ _ | refine Below.setCell ?_ (by simp <;> omega) _))⟩)
    all_goals (simp [askE, HZ.out]; done)

end Go.Proofs.YtmglbegbijofkaaGreatDoor
