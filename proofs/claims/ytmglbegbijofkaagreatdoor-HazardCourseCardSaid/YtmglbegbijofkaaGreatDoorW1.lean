import Derived.Test.YtmglbegbijofkaaGreatDoorProg
import Derived.Test.YtmglbegbijofkaaGreatDoorPA
import Derived.WalkKit
import Derived.WalkSpells
import Derived.WalkLawsBesides
import Derived.Deep.QuietTactic
import Derived.BigQuiet
import Derived.Outline
import Derived.Lib.Hide
import Derived.WalkSmall
set_option linter.unusedVariables false
set_option linter.unusedSimpArgs false
namespace Go.Proofs.YtmglbegbijofkaaGreatDoor
open Go.RowKit

theorem ret_int {k : IntKind} {a b : Int} (h : a = b) : Ending.returned (.int k a) = .returned (.int k b) := by rw [h]
theorem ret_tup3 {a b c a' b' c' : Value} (h1 : a = a') (h2 : b = b') (h3 : c = c') : Ending.returned (.tuple #[a, b, c]) = .returned (.tuple #[a', b', c']) := by rw [h1, h2, h3]
theorem ret_tup2 {a b a' b' : Value} (h1 : a = a') (h2 : b = b') : Ending.returned (.tuple #[a, b]) = .returned (.tuple #[a', b']) := by rw [h1, h2]
theorem vint {k : IntKind} {a b : Int} (h : a = b) : Value.int k a = .int k b := by rw [h]
theorem vbool {a b : Bool} (h : a = b) : Value.bool a = .bool b := by rw [h]
theorem ret_bool {a b : Bool} (h : a = b) : Ending.returned (.bool a) = .returned (.bool b) := by rw [h]
/-- what a call that makes memory leaves of what was there -/
theorem bcell {W w1 : World} (hb : Below W.heap.size W w1) : (∀ b o, b < W.heap.size → w1.cell? ⟨b, o, none⟩ = W.cell? ⟨b, o, none⟩) ∧ (∀ b o, b < W.heap.size → w1.frozen? ⟨b, o, none⟩ = W.frozen? ⟨b, o, none⟩) :=
  ⟨fun b o h => hb.cell (p := ⟨b, o, none⟩) h, fun b o h => hb.frozen (p := ⟨b, o, none⟩) h⟩
theorem bsize {W w1 : World} (hb : Below W.heap.size W w1) : W.heap.size ≤ w1.heap.size := hb.size
theorem balloc {w w1 : World} (h : Below w.heap.size w w1) (o : Obj) : Below w.heap.size w (w1.alloc o) := h.alloc h.size o
theorem below_drewN' {w w1 : World} (h : Below w.heap.size w w1) (n : Nat) : Below w.heap.size w (w1.drewN n) := below_drewN h n
theorem below_trans {w w1 w2 : World} (h : Below w.heap.size w w1) (k : Below w1.heap.size w1 w2) : Below w.heap.size w w2 :=
  h.trans (k.mono h.size)

/-- a callee that leaves the world alone, in a region that only reads -/
theorem qsame {P : Program} {f : FuncId} {args : Array Value} {w : World} {n : Nat} {v : Value}
    (h : Calls P f args (w.drewN n) fun e w' => e = .returned v ∧ w.drewN n = w') : Calls P f args (w.drewN n) fun e w'' => e = .returned v ∧ ∃ m, w'' = w.drewN m :=
  h.mono fun _ _ ⟨he, hm⟩ => ⟨he, n, hm.symm⟩

set_option maxHeartbeats 400000 in
theorem out_any (n lo hi : Int) (w : World) :
    Calls Tryz.prog 64 #[.int .i64 n, .int .i64 lo, .int .i64 hi] w fun e w' => e = .returned (.bool (outB n lo hi)) ∧ w = w' := by
  go_enter Tryz.func64, Tryz.ntmps64
  go_wp2
  all_goals (go_ret; exact ⟨ret_bool (by simp [outB, *] <;> omega), rfl⟩)

set_option maxHeartbeats 400000 in
theorem off_any (n : Int) (w : World) :
    Calls Tryz.prog 91 #[.int .i64 n] w fun e w' => e = .returned (.bool (offB n)) ∧ w = w' := by
  go_enter Tryz.func91, Tryz.ntmps91
  go_wp2_with (go_at_call 64; refine (out_any _ _ _ _).mono ?_; rintro e w' ⟨rfl, rfl⟩)
  go_ret; exact ⟨rfl, rfl⟩

set_option maxHeartbeats 400000 in
theorem bad_any (a b : Int) (w : World) :
    Calls Tryz.prog 149 #[.agg #[.int .i64 a, .int .i64 b]] w fun e w' => e = .returned (.bool (badB a b)) ∧ Below w.heap.size w w' := by
  go_enter Tryz.func149, Tryz.ntmps149
  go_wp2_with (go_at_call 91; refine (off_any _ _).mono ?_; rintro e w' ⟨rfl, rfl⟩)
  all_goals (go_ret; exact ⟨ret_bool (by simp [badB, *] <;> omega), (by repeat (first | exact Below.refl _ _ | assumption | refine balloc ?_ _ | refine below_trans ?_ (by assumption) | refine Below.drew ?_ | refine below_drewN ?_ _ | refine Below.setCell ?_ (by simp <;> omega) _))⟩)

set_option maxHeartbeats 400000 in
theorem wild_any (a b c d : Int) (w : World) :
    Calls Tryz.prog 89 #[.agg #[.int .i64 a, .int .i64 b, .int .i64 c, .int .i64 d]] w fun e w' => e = .returned (.bool (wildB a b c d)) ∧ Below w.heap.size w w' := by
  go_enter Tryz.func89, Tryz.ntmps89
  go_wp2_with (go_at_call 149; refine (bad_any _ _ _).mono ?_; rintro e w' ⟨rfl, hb⟩; obtain ⟨hc, hf⟩ := bcell hb; have hz := hb.size; (try simp at hz))
  all_goals (go_ret; exact ⟨ret_bool (by simp [wildB, *] <;> omega), (by repeat (first | exact Below.refl _ _ | assumption | refine balloc ?_ _ | refine below_trans ?_ (by assumption) | refine Below.drew ?_ | refine below_drewN ?_ _ | refine Below.setCell ?_ (by simp <;> omega) _))⟩)

theorem strange_last (p xl xh yl yh tl th : Int) (_h0 : 0 ≤ p) (h1 : ¬ wildB xl xh yl yh = true) (h2 : ¬ outB th 0 100000 = true) (h3 : ¬ outB tl 0 th = true) :
    (decide (p < 0) || decide (3001 ≤ wrap64 (th - tl))) = strangeB p xl xh yl yh tl th := by
  have k2 := outB_false.1 (by simpa using h2)
  have k3 := outB_false.1 (by simpa using h3)
  rw [IntWalk.wrap64_in _ ⟨by omega, by omega⟩]
  simp only [Bool.not_eq_true] at h1 h2 h3
  simp [strangeB, h1, h2, h3]

set_option maxHeartbeats 400000 in
theorem strange_any (p xl xh yl yh tl th : Int) (w : World) :
    Calls Tryz.prog 63 #[.agg #[.int .i64 p, .int .i64 xl, .int .i64 xh, .int .i64 yl, .int .i64 yh, .int .i64 tl, .int .i64 th]] w fun e w' => e = .returned (.bool (strangeB p xl xh yl yh tl th)) ∧ Below w.heap.size w w' := by
  go_enter Tryz.func63, Tryz.ntmps63
  go_wp2_with (first | (go_at_call 89; refine (wild_any _ _ _ _ _).mono ?_; rintro e w' ⟨rfl, hb⟩; obtain ⟨hc, hf⟩ := bcell hb; have hz := hb.size; (try simp at hz)) | (go_at_call 64; refine (out_any _ _ _ _).mono ?_; rintro e w' ⟨rfl, rfl⟩))
  all_goals (go_ret; refine ⟨ret_bool ?_, (by repeat (first | exact Below.refl _ _ | assumption | refine balloc ?_ _ | refine below_trans ?_ (by assumption) | refine Below.drew ?_ | refine below_drewN ?_ _ | refine Below.setCell ?_ (by simp <;> omega) _))⟩)
  all_goals (first | (refine strange_last _ _ _ _ _ _ _ ?_ ?_ ?_ ?_ <;> assumption) | (simp [strangeB, *]; done))

set_option maxHeartbeats 400000 in
theorem floor_any (a b : Int) (w : World) (h1 : -9223372036854775807 ≤ a) (h2 : a ≤ 9223372036854775807) (h3 : 1 ≤ b) (h4 : b ≤ 9223372036854775807) :
    Calls Tryz.prog 66 #[.int .i64 a, .int .i64 b] w fun e w' => e = .returned (.int .i64 (a / b)) ∧ w = w' := by
  obtain ⟨f1, f2, f3, f4⟩ := floor_facts a b h3
  have g1 : -9223372036854775807 ≤ a.tdiv b ∧ a.tdiv b ≤ 9223372036854775807 := by rcases Int.lt_or_le a 0 with h | h; have := f2 h; omega; have := f1 h; omega
  have g2 : -9223372036854775807 ≤ a.tdiv b * b ∧ a.tdiv b * b ≤ 9223372036854775807 := by rcases Int.lt_or_le a 0 with h | h; have := f2 h; omega; have := f1 h; omega
  obtain ⟨g1, g1'⟩ := g1
  obtain ⟨g2, g2'⟩ := g2
  have F3 := Lib.hid f3
  have F4 := Lib.hid f4
  clear f1 f2 f3 f4
  go_enter Tryz.func66, Tryz.ntmps66
  go_wp2
  all_goals (go_ret; refine ⟨ret_int ?_, rfl⟩)
  all_goals (first | exact (F3.out ‹_›).symm | exact (F4.out ‹_›).symm)

set_option maxHeartbeats 400000 in
/-- steps: the first and last of so many steps that a span meets, and whether it has others -/
theorem steps_any (l h fr side many : Int) (w : World) (h1 : -2000000000 ≤ l) (h2 : l ≤ 2000000000) (h3 : -2000000000 ≤ h) (h4 : h ≤ 2000000000) (h5 : -2000000000 ≤ fr) (h6 : fr ≤ 2000000000) (h7 : 1 ≤ side) (h8 : side ≤ 100000000) (h9 : 1 ≤ many) (h10 : many ≤ 20) :
    Calls Tryz.prog 142 #[.agg #[.int .i64 l, .int .i64 h], .int .i64 fr, .int .i64 side, .int .i64 many] w fun e w' =>
      e = .returned (.tuple #[.int .i64 (stepsLo l fr side), .int .i64 (stepsHi h fr side many), .bool (stepsMo l h fr side many)]) ∧ Below w.heap.size w w' := by
  go_enter Tryz.func142, Tryz.ntmps142
  go_wp2_with fail
  have k1 := IntWalk.i64_in (l - fr) ⟨by omega, by omega⟩
  have k2 := IntWalk.i64_in (h - fr) ⟨by omega, by omega⟩
  go_quiet ((go_at_call 66; exact qsame (floor_any _ _ _ (by omega) (by omega) (by omega) (by omega))))
  clear k1 k2
  go_wp2_with fail
  all_goals (go_ret3; refine ⟨ret_tup3 (vint (by unfold stepsLo; omega)) (vint (by unfold stepsHi; omega)) (vbool (by unfold stepsMo; simp <;> omega)), (by repeat (first | exact Below.refl _ _ | assumption | refine balloc ?_ _ | refine below_trans ?_ (by assumption) | refine Below.drew ?_ | refine below_drewN ?_ _ | refine Below.setCell ?_ (by simp <;> omega) _))⟩)

end Go.Proofs.YtmglbegbijofkaaGreatDoor
