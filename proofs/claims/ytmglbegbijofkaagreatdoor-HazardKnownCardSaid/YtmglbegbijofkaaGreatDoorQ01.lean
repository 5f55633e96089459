import Derived.Test.YtmglbegbijofkaaGreatDoorProg
import Derived.Test.YtmglbegbijofkaaGreatDoorQ00
import Derived.WalkKit
import Derived.WalkSpells
import Derived.WalkLawsBesides
import Derived.Deep.QuietTactic
import Derived.BigQuiet
import Derived.Outline
import Derived.Lib.Hide
import Derived.WalkSmall
set_option linter.unusedVariables false
set_option linter.unusedSimpArgs false
namespace Go.Proofs.YtmglbegbijofkaaGreatDoor
open Go.RowKit

theorem ret_int {k : IntKind} {a b : Int} (h : a = b) : Ending.returned (.int k a) = .returned (.int k b) := by rw [h]
theorem ret_tup3 {a b c a' b' c' : Value} (h1 : a = a') (h2 : b = b') (h3 : c = c') : Ending.returned (.tuple #[a, b, c]) = .returned (.tuple #[a', b', c']) := by rw [h1, h2, h3]
theorem ret_tup2 {a b a' b' : Value} (h1 : a = a') (h2 : b = b') : Ending.returned (.tuple #[a, b]) = .returned (.tuple #[a', b']) := by rw [h1, h2]
theorem vint {k : IntKind} {a b : Int} (h : a = b) : Value.int k a = .int k b := by rw [h]
theorem vbool {a b : Bool} (h : a = b) : Value.bool a = .bool b := by rw [h]
theorem ret_bool {a b : Bool} (h : a = b) : Ending.returned (.bool a) = .returned (.bool b) := by rw [h]
/-- what a call that makes memory leaves of what was there -/
theorem bcell {W w1 : World} (hb : Below W.heap.size W w1) : (∀ b o, b < W.heap.size → w1.cell? ⟨b, o, none⟩ = W.cell? ⟨b, o, none⟩) ∧ (∀ b o, b < W.heap.size → w1.frozen? ⟨b, o, none⟩ = W.frozen? ⟨b, o, none⟩) :=
  ⟨fun b o h => hb.cell (p := ⟨b, o, none⟩) h, fun b o h => hb.frozen (p := ⟨b, o, none⟩) h⟩
theorem balloc {w w1 : World} (h : Below w.heap.size w w1) (o : Obj) : Below w.heap.size w (w1.alloc o) := h.alloc h.size o
theorem below_drewN' {w w1 : World} (h : Below w.heap.size w w1) (n : Nat) : Below w.heap.size w (w1.drewN n) := below_drewN h n
theorem below_trans {w w1 w2 : World} (h : Below w.heap.size w w1) (k : Below w1.heap.size w1 w2) : Below w.heap.size w w2 :=
  h.trans (k.mono h.size)

/-- a callee that leaves the world alone, in a region that only reads -/
theorem qsame {P : Program} {f : FuncId} {args : Array Value} {w : World} {n : Nat} {v : Value}
    (h : Calls P f args (w.drewN n) fun e w' => e = .returned v ∧ w.drewN n = w') : Calls P f args (w.drewN n) fun e w'' => e = .returned v ∧ ∃ m, w'' = w.drewN m :=
  h.mono fun _ _ ⟨he, hm⟩ => ⟨he, n, hm.symm⟩

set_option maxHeartbeats 400000 in
theorem out_any (n lo hi : Int) (w : World) :
    Calls Tryz.prog 64 #[.int .i64 n, .int .i64 lo, .int .i64 hi] w fun e w' => e = .returned (.bool (outB n lo hi)) ∧ w = w' := by
  go_enter Tryz.func64, Tryz.ntmps64
  go_wp2
  all_goals (go_ret; exact ⟨ret_bool (by simp [outB, *] <;> omega), rfl⟩)

set_option maxHeartbeats 400000 in
theorem off_any (n : Int) (w : World) :
    Calls Tryz.prog 91 #[.int .i64 n] w fun e w' => e = .returned (.bool (offB n)) ∧ w = w' := by
  go_enter Tryz.func91, Tryz.ntmps91
  go_wp2_with (go_at_call 64; refine (out_any _ _ _ _).mono ?_; rintro e w' ⟨rfl, rfl⟩)
  go_ret; exact ⟨rfl, rfl⟩

set_option maxHeartbeats 400000 in
theorem bad_any (a b : Int) (w : World) :
    Calls Tryz.prog 149 #[.agg #[.int .i64 a, .int .i64 b]] w fun e w' => e = .returned (.bool (badB a b)) ∧ Below w.heap.size w w' := by
  go_enter Tryz.func149, Tryz.ntmps149
  go_wp2_with (go_at_call 91; refine (off_any _ _).mono ?_; rintro e w' ⟨rfl, rfl⟩)
  all_goals (go_ret; exact ⟨ret_bool (by simp [badB, *] <;> omega), (by repeat (first | exact Below.refl _ _ | assumption | refine balloc ?_ _ | refine below_trans ?_ (by assumption) | refine Below.drew ?_ | refine below_drewN ?_ _ | refine Below.setCell ?_ (by simp <;> omega) _))⟩)

set_option maxHeartbeats 400000 in
theorem wild_any (a b c d : Int) (w : World) :
    Calls Tryz.prog 89 #[.agg #[.int .i64 a, .int .i64 b, .int .i64 c, .int .i64 d]] w fun e w' => e = .returned (.bool (wildB a b c d)) ∧ Below w.heap.size w w' := by
  go_enter Tryz.func89, Tryz.ntmps89
  go_wp2_with (go_at_call 149; refine (bad_any _ _ _).mono ?_; rintro e w' ⟨rfl, hb⟩; obtain ⟨hc, hf⟩ := bcell hb; have hz := hb.size; (try simp at hz))
  all_goals (go_ret; exact ⟨ret_bool (by simp [wildB, *] <;> omega), (by repeat (first | exact Below.refl _ _ | assumption | refine balloc ?_ _ | refine below_trans ?_ (by assumption) | refine Below.drew ?_ | refine below_drewN ?_ _ | refine Below.setCell ?_ (by simp <;> omega) _))⟩)

theorem strange_last (p xl xh yl yh tl th : Int) (_h0 : 0 ≤ p) (h1 : ¬ wildB xl xh yl yh = true) (h2 : ¬ outB th 0 100000 = true) (h3 : ¬ outB tl 0 th = true) :
    (decide (p < 0) || decide (3001 ≤ wrap64 (th - tl))) = strangeB p xl xh yl yh tl th := by
  have k2 := outB_false.1 (by simpa using h2)
  have k3 := outB_false.1 (by simpa using h3)
  rw [IntWalk.wrap64_in _ ⟨by omega, by omega⟩]
  simp only [Bool.not_eq_true] at h1 h2 h3
  simp [strangeB, h1, h2, h3]

set_option maxHeartbeats 400000 in
theorem strange_any (p xl xh yl yh tl th : Int) (w : World) :
    Calls Tryz.prog 63 #[.agg #[.int .i64 p, .int .i64 xl, .int .i64 xh, .int .i64 yl, .int .i64 yh, .int .i64 tl, .int .i64 th]] w fun e w' => e = .returned (.bool (strangeB p xl xh yl yh tl th)) ∧ Below w.heap.size w w' := by
  go_enter Tryz.func63, Tryz.ntmps63
  go_wp2_with (first | (go_at_call 89; refine (wild_any _ _ _ _ _).mono ?_; rintro e w' ⟨rfl, hb⟩; obtain ⟨hc, hf⟩ := bcell hb; have hz := hb.size; (try simp at hz)) | (go_at_call 64; refine (out_any _ _ _ _).mono ?_; rintro e w' ⟨rfl, rfl⟩))
  all_goals (go_ret; refine ⟨ret_bool ?_, (by repeat (first | exact Below.refl _ _ | assumption | refine balloc ?_ _ | refine below_trans ?_ (by assumption) | refine Below.drew ?_ | refine below_drewN ?_ _ | refine Below.setCell ?_ (by simp <;> omega) _))⟩)
  all_goals (first | (refine strange_last _ _ _ _ _ _ _ ?_ ?_ ?_ ?_ <;> assumption) | (simp [strangeB, *]; done))

set_option maxHeartbeats 400000 in
theorem floor_any (a b : Int) (w : World) (h1 : -9223372036854775807 ≤ a) (h2 : a ≤ 9223372036854775807) (h3 : 1 ≤ b) (h4 : b ≤ 9223372036854775807) :
    Calls Tryz.prog 66 #[.int .i64 a, .int .i64 b] w fun e w' => e = .returned (.int .i64 (a / b)) ∧ w = w' := by
  obtain ⟨f1, f2, f3, f4⟩ := floor_facts a b h3
  have g1 : -9223372036854775807 ≤ a.tdiv b ∧ a.tdiv b ≤ 9223372036854775807 := by rcases Int.lt_or_le a 0 with h | h; have := f2 h; omega; have := f1 h; omega
  have g2 : -9223372036854775807 ≤ a.tdiv b * b ∧ a.tdiv b * b ≤ 9223372036854775807 := by rcases Int.lt_or_le a 0 with h | h; have := f2 h; omega; have := f1 h; omega
  obtain ⟨g1, g1'⟩ := g1
  obtain ⟨g2, g2'⟩ := g2
  have F3 := Lib.hid f3
  have F4 := Lib.hid f4
  clear f1 f2 f3 f4
  go_enter Tryz.func66, Tryz.ntmps66
  go_wp2
  all_goals (go_ret; refine ⟨ret_int ?_, rfl⟩)
  all_goals (first | exact (F3.out ‹_›).symm | exact (F4.out ‹_›).symm)

set_option maxHeartbeats 400000 in
/-- steps: the first and last of so many steps that a span meets, and whether it has others -/
theorem steps_any (l h fr side many : Int) (w : World) (h1 : -2000000000 ≤ l) (h2 : l ≤ 2000000000) (h3 : -2000000000 ≤ h) (h4 : h ≤ 2000000000) (h5 : -2000000000 ≤ fr) (h6 : fr ≤ 2000000000) (h7 : 1 ≤ side) (h8 : side ≤ 100000000) (h9 : 1 ≤ many) (h10 : many ≤ 20) :
    Calls Tryz.prog 142 #[.agg #[.int .i64 l, .int .i64 h], .int .i64 fr, .int .i64 side, .int .i64 many] w fun e w' =>
      e = .returned (.tuple #[.int .i64 (stepsLo l fr side), .int .i64 (stepsHi h fr side many), .bool (stepsMo l h fr side many)]) ∧ Below w.heap.size w w' := by
  go_enter Tryz.func142, Tryz.ntmps142
  go_wp2_with fail
  have k1 := IntWalk.i64_in (l - fr) ⟨by omega, by omega⟩
  have k2 := IntWalk.i64_in (h - fr) ⟨by omega, by omega⟩
  go_quiet ((go_at_call 66; exact qsame (floor_any _ _ _ (by omega) (by omega) (by omega) (by omega))))
  clear k1 k2
  go_wp2_with fail
  all_goals (go_ret3; refine ⟨ret_tup3 (vint (by unfold stepsLo; omega)) (vint (by unfold stepsHi; omega)) (vbool (by unfold stepsMo; simp <;> omega)), (by repeat (first | exact Below.refl _ _ | assumption | refine balloc ?_ _ | refine below_trans ?_ (by assumption) | refine Below.drew ?_ | refine below_drewN ?_ _ | refine Below.setCell ?_ (by simp <;> omega) _))⟩)

end Go.Proofs.YtmglbegbijofkaaGreatDoor
namespace Go.Proofs.YtmglbegbijofkaaGreatDoor
open Go.RowKit

theorem ownsRow_base {w : World} {b b' : Nat} {e : TypeId} {size : Nat} {v : Value} {n : Nat} {xs : List Value} (h : w.ownsRow b e size v n xs) (hb : b' ≤ b) : w.ownsRow b' e size v n xs := by
  obtain ⟨h1, h2 | ⟨g, cap, cur, h3, h4, h5⟩⟩ := h
  · exact ⟨h1, .inl h2⟩
  · exact ⟨h1, .inr ⟨g, cap, cur, h3, by omega, h5⟩⟩
theorem Tryz.info3 : (Tryz.prog.info? 3).map (fun i => (i.zero, i.size, i.bytes)) = some (some (.int .i64 0), 1, 8) := by kernel_rfl

/-- what 'cells' leaves -/
def CellsPost (w : World) (l : List Int) (mo : Bool) (e : Ending) (w' : World) : Prop :=
  ∃ v, e = .returned (.tuple #[v, .bool mo]) ∧ w'.ownsRow w.heap.size 3 1 v l.length (l.map (Value.int .i64)) ∧ Below w.heap.size w w'

set_option maxRecDepth 100000 in
set_option maxHeartbeats 800000 in
theorem cells_any (cx cy size cols rows : Int) (pv : Value) (xl xh yl yh : Int) (w : World)
    (h1 : -2000000000 ≤ cx) (h2 : cx ≤ 2000000000) (h3 : -2000000000 ≤ cy) (h4 : cy ≤ 2000000000) (h5 : 1 ≤ size) (h6 : size ≤ 100000) (h7 : 1 ≤ cols) (h8 : cols ≤ 20) (h9 : 1 ≤ rows) (h10 : rows ≤ 20)
    (h11 : -2000000000 ≤ xl) (h12 : xh ≤ 2000000000) (h13 : -2000000000 ≤ yl) (h14 : yh ≤ 2000000000) (h15 : xl ≤ xh) (h16 : yl ≤ yh) :
    Calls Tryz.prog 81 #[.agg #[.int .i64 cx, .int .i64 cy, .int .i64 size, .int .i64 cols, .int .i64 rows, pv], .agg #[.int .i64 xl, .int .i64 xh, .int .i64 yl, .int .i64 yh]] w
      (CellsPost w (rowsL (stepsLo xl cx (1000 * size)) (stepsLo yl cy (1000 * size)) cols (stepsHi xh cx (1000 * size) cols - stepsLo xl cx (1000 * size) + 1).toNat (stepsHi yh cy (1000 * size) rows - stepsLo yl cy (1000 * size) + 1).toNat)
        (stepsMo xl xh cx (1000 * size) cols || stepsMo yl yh cy (1000 * size) rows)) := by
  go_enter Tryz.func81, Tryz.ntmps81
  go_wp2_with fail
  refine ((steps_any _ _ _ _ _ _ (by omega) (by omega) (by omega) (by omega) (by omega) (by omega) (by omega) (by omega) (by omega) (by omega)).mono ?_)
  rintro e w1 ⟨rfl, hb1⟩
  obtain ⟨hc1, hf1⟩ := bcell hb1
  go_wp2_with fail
  refine ((steps_any _ _ _ _ _ _ (by omega) (by omega) (by omega) (by omega) (by omega) (by omega) (by omega) (by omega) (by omega) (by omega)).mono ?_)
  rintro e w2 ⟨rfl, hb2⟩
  obtain ⟨hc2, hf2⟩ := bcell hb2
  go_wp2_with fail
  obtain ⟨c1, c2⟩ := stepsLo_bd xl cx (1000 * size) (by omega) (by omega) (by omega) (by omega) (by omega)
  obtain ⟨r1, r2⟩ := stepsLo_bd yl cy (1000 * size) (by omega) (by omega) (by omega) (by omega) (by omega)
  obtain ⟨d1, d2⟩ := stepsHi_bd xh cx (1000 * size) cols (by omega) (by omega) (by omega) (by omega) (by omega) (by omega)
  obtain ⟨s1, s2⟩ := stepsHi_bd yh cy (1000 * size) rows (by omega) (by omega) (by omega) (by omega) (by omega) (by omega)
  generalize stepsLo xl cx (1000 * size) = c at *
  generalize stepsLo yl cy (1000 * size) = r at *
  generalize stepsHi xh cx (1000 * size) cols = d at *
  generalize stepsHi yh cy (1000 * size) rows = s at *
  generalize (stepsMo xl xh cx (1000 * size) cols) = mo1 at *
  generalize (stepsMo yl yh cy (1000 * size) rows) = mo2 at *
  have hB : Below w.heap.size w w2 := (by repeat (first | exact Below.refl _ _ | assumption | refine balloc ?_ _ | refine below_trans ?_ (by assumption) | refine Below.drew ?_ | refine below_drewN ?_ _ | refine Below.setCell ?_ (by simp <;> omega) _))
  have hM : w2.cell? ⟨w.heap.size, 3, none⟩ = some (.int .i64 cols) := by
    have := hB.size
    have := hb1.size
    simp at this
    rw [hc2 _ _ (by omega), hc1 _ _ (by simp; omega)]
    simp [go_sem]
  have hsz : w.heap.size + 2 ≤ w2.heap.size := by
    have k1 := hb1.size
    have k2 := hb2.size
    simp at k1
    omega
  obtain ⟨i0, hi, hz0, hz1, hz2⟩ := info_parts Tryz.info3
  clear hb2 hc2 hf2 hb1 hc1 hf1
  go_loopw [4, 12] (fun v y wr => ∃ k : Nat, k ≤ (s - r + 1).toNat ∧ y = .int .i64 (r + k) ∧ wr.ownsRow w2.heap.size 3 1 v (rowsL c r cols (d - c + 1).toNat k).length ((rowsL c r cols (d - c + 1).toNat k).map (Value.int .i64)) ∧ Below w2.heap.size w2 wr) (fun _ y _ => (s + 1 - intOf y).toNat)
  case atStart => exact ⟨0, Nat.zero_le _, by simp, by simpa [rowsL] using World.ownsRow_nil _ _ _ _, Below.refl _ _⟩
  case round =>
    obtain ⟨k, hk, rfl, hown, hBw⟩ := hrel
    obtain ⟨wo, rfl⟩ : ∃ wo : World, wo = wr := ⟨_, rfl⟩
    by_cases hlt : r + k ≤ s
    · have hp1 : 0 ≤ (r + k) * cols := Int.mul_nonneg (by omega) (by omega)
      have hp2 : (r + k) * cols ≤ 400 := Int.le_trans (Int.mul_le_mul (a := r + k) (b := cols) (c := 20) (d := 20) (by omega) (by omega) (by omega) (by omega)) (by omega)
      go_wp2_with fail
      go_loopw [4, 13] (fun v x wr => ∃ i : Nat, i ≤ (d - c + 1).toNat ∧ x = .int .i64 (c + i) ∧ wr.ownsRow w2.heap.size 3 1 v (rowsL c r cols (d - c + 1).toNat k ++ rowL c (r + k) cols i).length ((rowsL c r cols (d - c + 1).toNat k ++ rowL c (r + k) cols i).map (Value.int .i64)) ∧ Below w2.heap.size w2 wr) (fun _ x _ => (d + 1 - intOf x).toNat)
      case atStart => exact ⟨0, Nat.zero_le _, by simp, by simpa [rowL] using hown, hBw⟩
      case round =>
        obtain ⟨i, hii, rfl, hown2, hBw2⟩ := hrel
        have hcm := (hBw2.cell (p := ⟨w.heap.size, 3, none⟩) (show w.heap.size < w2.heap.size by omega)).trans hM
        have hlen : (rowsL c r cols (d - c + 1).toNat k ++ rowL c (r + k) cols i).length + 1 ≤ 1000 := by
          rw [List.length_append, rowsL_length, rowL_length]
          have := Nat.mul_le_mul (show k ≤ 20 by omega) (show (d - c + 1).toNat ≤ 20 by omega)
          omega
        by_cases hlt2 : c + i ≤ d
        · obtain ⟨L, hL⟩ : ∃ L, L = rowsL c r cols (d - c + 1).toNat k ++ rowL c (r + k) cols i := ⟨_, rfl⟩
          rw [← hL] at hown2 hlen
          have HL := Lib.hid hL
          clear hL hown
          go_wp2_with (at_builtin; refine wpList_append_own _ rfl _ _ 40 rfl w2.heap.size 3 i0 (.int .i64 0) 1 8 Tryz.underlying40 hi hz0 hz1 hz2 rfl (by decide) _ _ _ rfl (hown2.alloc _) ⟨wr.heap.size, 0, none⟩ 1 1 [.int .i64 ((r + k) * cols + (c + i))] rfl rfl ?c1 ?c2 ?c3 ?c4 ?c5 ?_)
          case c1 => exact cell_one_new _ _ _
          case c2 => simp [Value.oneCell']
          case c3 => unfold maxLen; omega
          case c4 => omega
          case c5 => have := hBw2.size; simp; omega
          intro v' w3 hown' hgrow _
          have hB3 : Below w2.heap.size w2 w3 := (hBw2.alloc hBw2.size _).grown hgrow (by have := hBw2.size; simp; omega) (fun g hg => (World.ownsRow.lt hown2 g hg).1)
          clear hgrow hown2 hBw2 hcm
          go_wp2_with fail
          go_roundw
          case rel => exact ⟨i + 1, by omega, by go_num, by rw [rowL_succ, ← List.append_assoc, ← HL.out]; simpa using hown', hB3⟩
          case measure => simp [intOf]; omega
        · obtain rfl : i = (d - c + 1).toNat := by omega
          clear hlen
          rw [← rowsL_succ] at hown2
          have hk1 : k + 1 ≤ (s - r + 1).toNat := by omega
          go_wp2_with fail
          go_roundw
          case rel => exact ⟨k + 1, by omega, by go_num, hown2, hBw2⟩
          case measure => simp [intOf]; omega
    · obtain rfl : k = (s - r + 1).toNat := by omega
      go_wp2_with fail
      all_goals (go_ret2; exact ⟨_, rfl, ownsRow_base hown (by omega), below_trans hB hBw⟩)

end Go.Proofs.YtmglbegbijofkaaGreatDoor
namespace Go.Proofs.YtmglbegbijofkaaGreatDoor
open Go.RowKit

/-- 'v' is a slice of n elements, k cells each, that lies in w and holds f -/
def RowAt (w : World) (v : Value) (n k : Nat) (f : Nat → Value) : Prop :=
  ∃ a c, v = .slice a n c ∧ (n = 0 ∨ ∃ b off, a = some ⟨b, off, none⟩ ∧ b < w.heap.size ∧ ∀ i, i < n * k → w.cell? ⟨b, off + i, none⟩ = some (f i))
theorem RowAt.below {w w' : World} {v : Value} {n k : Nat} {f : Nat → Value} (h : RowAt w v n k f) (hb : Below w.heap.size w w') : RowAt w' v n k f := by
  obtain ⟨a, c, rfl, h | ⟨b, off, rfl, h1, h2⟩⟩ := h
  · exact ⟨a, c, rfl, .inl h⟩
  · exact ⟨_, c, rfl, .inr ⟨b, off, rfl, Nat.lt_of_lt_of_le h1 hb.size, fun i hi => (hb.cell (p := ⟨b, off + i, none⟩) h1).trans (h2 i hi)⟩⟩
def intF (zs : List Int) (i : Nat) : Value := .int .i64 (zs[i]?.getD 0)
abbrev IntsAt (w : World) (v : Value) (zs : List Int) : Prop := RowAt w v zs.length 1 (intF zs)

set_option maxHeartbeats 400000 in
theorem check1_any (n : Int) (w : World) : Calls Tryz.prog 101 #[.int .i64 n] w fun e w' => e = .returned (.bool (outP n)) ∧ w = w' := by
  go_enter Tryz.func101, Tryz.ntmps101
  go_wp2_with (go_at_call 64; refine (out_any _ _ _ _).mono ?_; rintro e w' ⟨rfl, rfl⟩)
  go_ret; exact ⟨rfl, rfl⟩

set_option maxHeartbeats 400000 in
theorem indexCheck_any (v : Value) (zs : List Int) (w : World) (hv : IntsAt w v zs) (hn : zs.length ≤ 9223372036854775806) :
    Calls Tryz.prog 100 #[v, .func (.func 101) #[] #[]] w fun e w' => e = .returned (.int .i64 (idxP outP zs 0)) ∧ w = w' := by
  obtain ⟨a, c, rfl, hr⟩ := hv
  go_enter Tryz.func100, Tryz.ntmps100
  go_wp2_with fail
  go_loop [8] (fun i => ∃ k : Nat, k ≤ zs.length ∧ i = .int .i64 k ∧ Hid (idxP outP zs 0 = idxP outP (zs.drop k) k)) (fun i => zs.length - (intOf i).toNat)
  case atStart => exact ⟨0, Nat.zero_le _, rfl, rfl⟩
  case round =>
    obtain ⟨k, hk, rfl, HI⟩ := hrel
    by_cases hlt : k < zs.length
    · rcases hr with h0 | ⟨b, off, rfl, hb, hc⟩
      · omega
      · have hck := hc k (by omega)
        unfold intF at hck
        have HS := Lib.hid (idxP_drop outP zs k hlt)
        go_wp2_with (go_at_call 101; refine (check1_any _ _).mono ?_; rintro e w' ⟨rfl, rfl⟩)
        · go_ret
          exact ⟨ret_int (by rw [HI.out, HS.out, if_pos ‹_›]), rfl⟩
        · go_round
          case rel => exact ⟨k + 1, by omega, by go_num, by unfold Hid; rw [HI.out, HS.out, if_neg (by simp [*])]⟩
          case measure => simp [intOf]; omega
    · obtain rfl : k = zs.length := by omega
      go_wp2_with fail
      go_ret
      exact ⟨ret_int (by rw [HI.out, idxP_end]), rfl⟩

def ErrTup (p a e : Int) : Ending := .returned (.tuple #[.int .i64 p, .int .i64 a, .int .i64 e])

set_option maxHeartbeats 400000 in
theorem check_any (cx cy size cols rows : Int) (pv : Value) (zs : List Int) (w : World) (hv : IntsAt w pv zs) (hn : zs.length ≤ 9223372036854775806) :
    Calls Tryz.prog 35 #[.agg #[.int .i64 cx, .int .i64 cy, .int .i64 size, .int .i64 cols, .int .i64 rows, pv]] w fun e w' =>
      e = ErrTup (chkPart cx cy size cols rows zs) (chkAt cx cy size cols rows zs) (chkE cx cy size cols rows zs) ∧ Below w.heap.size w w' := by
  have hv1 := hv.below (balloc (Below.refl _ w) (.cells #[.int .i64 cx, .int .i64 cy, .int .i64 size, .int .i64 cols, .int .i64 rows, pv] 42))
  have ibd := idxP_bd outP zs 0 (by omega)
  obtain ⟨a, c, rfl, hx⟩ := hv
  clear hx
  have HV := Lib.hid hv1
  clear hv1
  by_cases hm : mapB cx cy size cols rows = true
  · have HM := Lib.hid hm
    clear hm
    go_enter Tryz.func35, Tryz.ntmps35
    go_wp2_with (first | (go_at_call 91; refine (off_any _ _).mono ?_; rintro e w' ⟨rfl, rfl⟩) | (go_at_call 64; refine (out_any _ _ _ _).mono ?_; rintro e w' ⟨rfl, rfl⟩) | (go_at_call 100; refine (indexCheck_any _ _ _ HV.out hn).mono ?_; rintro e w' ⟨rfl, rfl⟩))
    all_goals (go_ret3)
    all_goals (refine ⟨ret_tup3 (vint ?_) (vint ?_) (vint ?_), (by repeat (first | exact Below.refl _ _ | assumption | refine balloc ?_ _ | refine below_trans ?_ (by assumption) | refine Below.drew ?_ | refine below_drewN ?_ _ | refine Below.setCell ?_ (by simp <;> omega) _))⟩)
    all_goals (first | (simp [chkPart, chkAt, chkE, HM.out]; done) | (exfalso; have hx := HM.out; simp [mapB, *] at hx; done))
  · have hm' : mapB cx cy size cols rows = false := by simpa using hm
    have hbd := mapB_false.1 hm'
    have e1 : offB cx = false := offB_false.2 (by omega)
    have e2 : offB cy = false := offB_false.2 (by omega)
    have e3 : outB size 1 100000 = false := outB_false.2 (by omega)
    have e4 : outB cols 1 20 = false := outB_false.2 (by omega)
    have e5 : outB rows 1 20 = false := outB_false.2 (by omega)
    have p1 : 0 ≤ cols * rows := Int.mul_nonneg (by omega) (by omega)
    have p2 : cols * rows ≤ 400 := Int.le_trans (Int.mul_le_mul (c := 20) (d := 20) (by omega) (by omega) (by omega) (by omega)) (by omega)
    clear hbd
    have HM := Lib.hid hm'
    clear hm hm'
    go_enter Tryz.func35, Tryz.ntmps35
    go_wp2_with (first | (go_at_call 91; refine (off_any _ _).mono ?_; rintro e w' ⟨rfl, rfl⟩) | (go_at_call 64; refine (out_any _ _ _ _).mono ?_; rintro e w' ⟨rfl, rfl⟩) | (go_at_call 100; refine (indexCheck_any _ _ _ HV.out hn).mono ?_; rintro e w' ⟨rfl, rfl⟩))
    all_goals (go_ret3)
    all_goals (refine ⟨ret_tup3 (vint ?_) (vint ?_) (vint ?_), (by repeat (first | exact Below.refl _ _ | assumption | refine balloc ?_ _ | refine below_trans ?_ (by assumption) | refine Below.drew ?_ | refine below_drewN ?_ _ | refine Below.setCell ?_ (by simp <;> omega) _))⟩)
    all_goals (first
      | (have hx : (zs.length : Int) ≠ cols * rows := by (have hq : ((zs.length : Int) != cols * rows) = true := by assumption); simpa using hq)
      | (have hx : (zs.length : Int) = cols * rows := by (have hq : ((zs.length : Int) != cols * rows) = false := by assumption); simpa using hq))
    all_goals (first
      | (simp [chkPart, chkAt, chkE, HM.out, hx]; done)
      | (have hy : 0 ≤ idxP outP zs 0 := by assumption
         simp [chkPart, chkAt, chkE, HM.out, hx, hy]; done)
      | (have hy : ¬ 0 ≤ idxP outP zs 0 := by omega
         simp [chkPart, chkAt, chkE, HM.out, hx, hy]; done))

set_option maxHeartbeats 400000 in
theorem asked_any (cx cy size cols rows : Int) (pv : Value) (zs : List Int) (xl xh yl yh lethal cap : Int) (w : World) (hv : IntsAt w pv zs) (hn : zs.length ≤ 9223372036854775806) :
    Calls Tryz.prog 80 #[.agg #[.int .i64 cx, .int .i64 cy, .int .i64 size, .int .i64 cols, .int .i64 rows, pv], .agg #[.int .i64 xl, .int .i64 xh, .int .i64 yl, .int .i64 yh], .agg #[.int .i64 lethal, .int .i64 cap]] w fun e w' =>
      e = .returned (.int .i64 (askE cx cy size cols rows zs xl xh yl yh lethal cap)) ∧ Below w.heap.size w w' := by
  have hv1 := hv.below (balloc (balloc (balloc (Below.refl _ w) (.cells #[.int .i64 cx, .int .i64 cy, .int .i64 size, .int .i64 cols, .int .i64 rows, pv] 42)) (.cells #[.int .i64 xl, .int .i64 xh, .int .i64 yl, .int .i64 yh] 25)) (.cells #[.int .i64 lethal, .int .i64 cap] 44))
  obtain ⟨a, c, rfl, hx⟩ := hv
  clear hx
  have HV := Lib.hid hv1
  clear hv1
  go_enter Tryz.func80, Tryz.ntmps80
  go_wp2_with fail
  refine (check_any _ _ _ _ _ _ _ _ HV.out hn).mono ?_
  rintro e w1 ⟨rfl, hb1⟩
  obtain ⟨hc1, hf1⟩ := bcell hb1
  have hz1 := hb1.size
  simp at hz1
  have hx0 : w.heap.size < w1.heap.size := by omega
  have hx1 : w.heap.size + 1 < w1.heap.size := by omega
  have hx2 : w.heap.size + 2 < w1.heap.size := by omega
  clear hz1
  unfold ErrTup
  by_cases hz : chkE cx cy size cols rows zs = 0
  · have hz' : (chkE cx cy size cols rows zs != 0) = false := by simpa using hz
    have HZ := Lib.hid hz
    clear hz
    go_wp2_with (first | (go_at_call 89; refine (wild_any _ _ _ _ _).mono ?_; rintro e w' ⟨rfl, hb⟩; obtain ⟨hc, hf⟩ := bcell hb; have hz := hb.size; (try simp at hz)) | (go_at_call 64; refine (out_any _ _ _ _).mono ?_; rintro e w' ⟨rfl, rfl⟩))
    all_goals (go_ret; refine ⟨ret_int ?_, (by repeat (first | exact Below.refl _ _ | assumption | refine balloc ?_ _ | refine below_trans ?_ (by assumption) | refine Below.drew ?_ | refine below_drewN ?_ _ | refine Below.setCell ?_ (by simp <;> omega) _))⟩)
    all_goals (simp [askE, HZ.out, *]; done)
  · have hz' : (chkE cx cy size cols rows zs != 0) = true := by simpa using hz
    have HZ := Lib.hid hz
    clear hz
    go_wp2_with fail
    all_goals (go_ret; refine ⟨ret_int ?_, (by repeat (first | exact Below.refl _ _ | assumption | refine balloc ?_ _ | refine below_trans ?_ (by assumption) | refine Below.drew ?_ | refine below_drewN ?_ _ | refine Below.setCell ?_ (by simp <;> omega) _))⟩)
    all_goals (simp [askE, HZ.out]; done)

end Go.Proofs.YtmglbegbijofkaaGreatDoor
