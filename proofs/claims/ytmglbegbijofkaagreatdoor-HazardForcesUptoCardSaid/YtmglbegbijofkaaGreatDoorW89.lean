/- The closures of hazard.Covers. -/
import Derived.Test.YtmglbegbijofkaaGreatDoorW51
import Derived.Test.YtmglbegbijofkaaGreatDoorW9
set_option linter.unusedVariables false
set_option linter.unusedSimpArgs false
namespace Go.Proofs.YtmglbegbijofkaaGreatDoor
open Go.RowKit
def overB (kl kh ml mh : Int) : Bool := decide (1000000 * kl ≤ ml) && decide (mh ≤ 1000000 * kh)
def covB (x : Impact) (n : NT) : Bool := decide (n.f ≤ x.tl) && decide (x.th ≤ n.u) && overB n.xl n.xh x.xl x.xh && overB n.yl n.yh x.yl x.yh
set_option maxRecDepth 100000 in
set_option maxHeartbeats 800000 in
theorem over118 (a b c d : Int) (w : World) (h1 : -3000 ≤ a) (h2 : a ≤ 3000) (h3 : -3000 ≤ b) (h4 : b ≤ 3000) : Calls Tryz.prog 118 #[.agg #[.int .i64 a, .int .i64 b], .agg #[.int .i64 c, .int .i64 d]] w fun e w' => e = .returned (.bool (overB a b c d)) ∧ Below w.heap.size w w' := by
  have u1 := IntWalk.i64_in (a * 1000000) ⟨by omega, by omega⟩
  have u2 := IntWalk.i64_in (b * 1000000) ⟨by omega, by omega⟩
  have HE : Hid (overB a b c d = (decide (a * 1000000 ≤ c) && decide (d ≤ b * 1000000))) := show _ = _ from by unfold overB; rw [Int.mul_comm 1000000 a, Int.mul_comm 1000000 b]
  by_cases q1 : a * 1000000 ≤ c
  · by_cases q2 : d ≤ b * 1000000
    all_goals
      go_enter Tryz.func118, Tryz.ntmps118
      go_wp2_with fail
      go_ret
      exact ⟨ret_bool (by rw [HE.out]; simp [*] <;> omega), (by repeat (first | exact Below.refl _ _ | assumption | refine balloc ?_ _ | refine below_trans ?_ (by assumption) | refine Below.drew ?_ | refine below_drewN ?_ _ | refine Below.setCell ?_ (by simp <;> omega) _))⟩
  · go_enter Tryz.func118, Tryz.ntmps118
    go_wp2_with fail
    go_ret
    exact ⟨ret_bool (by rw [HE.out]; simp [*] <;> omega), (by repeat (first | exact Below.refl _ _ | assumption | refine balloc ?_ _ | refine below_trans ?_ (by assumption) | refine Below.drew ?_ | refine below_drewN ?_ _ | refine Below.setCell ?_ (by simp <;> omega) _))⟩
theorem cells7y {W : World} {b : Nat} {t : TypeId} {a0 a1 a2 a3 a4 a5 a6 : Value} (h : cellsAt W b t #[a0, a1, a2, a3, a4, a5, a6]) : W.cell? ⟨b, 0, none⟩ = some a0 ∧ W.cell? ⟨b, 1, none⟩ = some a1 ∧ W.cell? ⟨b, 2, none⟩ = some a2 ∧ W.cell? ⟨b, 3, none⟩ = some a3 ∧ W.cell? ⟨b, 4, none⟩ = some a4 ∧ W.cell? ⟨b, 5, none⟩ = some a5 ∧ W.cell? ⟨b, 6, none⟩ = some a6 :=
  ⟨h.cell 0, h.cell 1, h.cell 2, h.cell 3, h.cell 4, h.cell 5, h.cell 6⟩
set_option maxRecDepth 100000 in
set_option maxHeartbeats 800000 in
theorem cov120 (x : Impact) (n : NT) (hn : (-3000 ≤ n.xl ∧ n.xl ≤ 3000) ∧ (-3000 ≤ n.xh ∧ n.xh ≤ 3000) ∧ (-3000 ≤ n.yl ∧ n.yl ≤ 3000) ∧ -3000 ≤ n.yh ∧ n.yh ≤ 3000) (xb ob : Nat) (w : World) (hx : cellsAt w xb 27 #[.int .i64 x.p, .int .i64 x.xl, .int .i64 x.xh, .int .i64 x.yl, .int .i64 x.yh, .int .i64 x.tl, .int .i64 x.th]) (ho : w.cell? ⟨ob, 0, none⟩ = some (.func (.func 118) #[] #[])) :
    Calls Tryz.prog 120 #[.agg #[.int .i64 n.n, .bool n.c, .int .i64 n.f, .int .i64 n.u, .int .i64 n.xl, .int .i64 n.xh, .int .i64 n.yl, .int .i64 n.yh], .pointer (some ⟨xb, 0, none⟩), .pointer (some ⟨ob, 0, none⟩)] w fun e w' => e = .returned (.bool (covB x n)) ∧ Below w.heap.size w w' := by
  obtain ⟨⟨k0, k1⟩, ⟨k2, k3⟩, ⟨k4, k5⟩, k6, k7⟩ := hn
  have HO1 := Lib.hid (fun W => over118 n.xl n.xh x.xl x.xh W (by omega) (by omega) (by omega) (by omega))
  have HO2 := Lib.hid (fun W => over118 n.yl n.yh x.yl x.yh W (by omega) (by omega) (by omega) (by omega))
  have HE : Hid (covB x n = (decide (n.f ≤ x.tl) && decide (x.th ≤ n.u) && overB n.xl n.xh x.xl x.xh && overB n.yl n.yh x.yl x.yh)) := show _ = _ from rfl
  have hxl := hx.lt
  have hol := World.block_lt_of_cell? _ _ ho
  generalize covB x n = CB at *
  generalize hr1 : overB n.xl n.xh x.xl x.xh = r1 at *
  generalize hr2 : overB n.yl n.yh x.yl x.yh = r2 at *
  clear hr1 hr2 k0 k1 k2 k3 k4 k5 k6 k7
  obtain ⟨nn, nc, nf, nu, nxl, nxh, nyl, nyh⟩ := n
  obtain ⟨xp, xxl, xxh, xyl, xyh, xtl, xth⟩ := x
  simp only at hx HO1 HO2 HE
  have hN := cellsNew w #[.int .i64 nn, .bool nc, .int .i64 nf, .int .i64 nu, .int .i64 nxl, .int .i64 nxh, .int .i64 nyl, .int .i64 nyh] 33
  have hb0 : Below w.heap.size w (w.alloc (.cells #[.int .i64 nn, .bool nc, .int .i64 nf, .int .i64 nu, .int .i64 nxl, .int .i64 nxh, .int .i64 nyl, .int .i64 nyh] 33)) := balloc (Below.refl _ _) _
  have hX := hx.below hb0
  have hO := below_cell hb0 ho
  obtain ⟨z0, z1, z2, z3, z4, z5, z6⟩ := cells7y hX
  obtain ⟨y0, y1, y2, y3, y4, y5, y6, y7⟩ := cells8 hN
  go_enter Tryz.func120, Tryz.ntmps120
  by_cases q1 : nf ≤ xtl
  · by_cases q2 : xth ≤ nu
    · go_wp2_with fail
      refine (HO1.out _).mono ?_
      rintro e w3 ⟨rfl, hb3⟩
      clear z0 z1 z2 z3 z4 z5 z6 y0 y1 y2 y3 y4 y5 y6 y7
      have hB3 := below_trans hb0 hb3
      obtain ⟨z0, z1, z2, z3, z4, z5, z6⟩ := cells7y (hX.below hb3)
      obtain ⟨y0, y1, y2, y3, y4, y5, y6, y7⟩ := cells8 (hN.below hb3)
      have hO3 := below_cell hb3 hO
      clear hO
      cases r1 with
      | false =>
        go_wp2_with fail
        go_ret
        exact ⟨ret_bool (by rw [HE.out]; simp [*] <;> omega), hB3⟩
      | true =>
        go_wp2_with fail
        refine (HO2.out _).mono ?_
        rintro e w4 ⟨rfl, hb4⟩
        clear z0 z1 z2 z3 z4 z5 z6 y0 y1 y2 y3 y4 y5 y6 y7
        go_wp2_with fail
        go_ret
        exact ⟨ret_bool (by rw [HE.out]; simp [*] <;> omega), below_trans hB3 hb4⟩
    · go_wp2_with fail
      go_ret
      exact ⟨ret_bool (by rw [HE.out]; simp [*] <;> omega), hb0⟩
  · go_wp2_with fail
    go_ret
    exact ⟨ret_bool (by rw [HE.out]; simp [*] <;> omega), hb0⟩
end Go.Proofs.YtmglbegbijofkaaGreatDoor
