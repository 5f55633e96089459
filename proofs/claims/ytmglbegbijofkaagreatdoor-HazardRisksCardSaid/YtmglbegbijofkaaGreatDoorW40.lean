import Derived.Test.YtmglbegbijofkaaGreatDoorW37
set_option linter.unusedVariables false
set_option linter.unusedSimpArgs false
namespace Go.Proofs.YtmglbegbijofkaaGreatDoor
open Go.RowKit

def idxFrom (p : Nat → Bool) : Nat → Nat → Int
  | 0, _ => -1
  | n + 1, k => if p k then (k : Int) else idxFrom p n (k + 1)
theorem idxFrom_iff (p : Nat → Bool) : ∀ (n k : Nat), 0 ≤ idxFrom p n k ↔ ∃ j, k ≤ j ∧ j < k + n ∧ p j = true
  | 0, k => by
    simp only [idxFrom]
    exact ⟨fun h => by omega, fun ⟨j, h1, h2, _⟩ => by omega⟩
  | n + 1, k => by
    simp only [idxFrom]
    by_cases h : p k = true
    · rw [if_pos h]
      exact ⟨fun _ => ⟨k, Nat.le_refl _, by omega, h⟩, fun _ => by omega⟩
    · rw [if_neg h, idxFrom_iff p n (k + 1)]
      constructor
      · rintro ⟨j, h1, h2, h3⟩; exact ⟨j, by omega, by omega, h3⟩
      · rintro ⟨j, h1, h2, h3⟩
        refine ⟨j, ?_, by omega, h3⟩
        by_cases e : j = k
        · subst e; exact absurd h3 h
        · omega
theorem idxFrom_lo (p : Nat → Bool) (n k : Nat) : -1 ≤ idxFrom p n k := by
  induction n generalizing k with
  | zero => simp [idxFrom]
  | succ n ih => simp only [idxFrom]; split; omega; exact ih _
def anyB (p : Nat → Bool) (n : Nat) : Bool := decide (0 ≤ idxFrom p n 0)
theorem anyB_true {p : Nat → Bool} {n : Nat} : anyB p n = true ↔ ∃ j, j < n ∧ p j = true := by
  unfold anyB
  rw [decide_eq_true_eq, idxFrom_iff]
  exact ⟨fun ⟨j, _, h2, h3⟩ => ⟨j, by omega, h3⟩, fun ⟨j, h2, h3⟩ => ⟨j, by omega, by omega, h3⟩⟩
def spAt (ss : List (Int × Int)) (j : Nat) : Int × Int := ss[j]?.getD (0, 0)
def spBad (ss : List (Int × Int)) (j : Nat) : Bool := decide ((spAt ss j).2 < (spAt ss j).1)
set_option maxHeartbeats 400000 in
theorem gt113 (a b : Int) (w : World) : Calls Tryz.prog 113 #[.agg #[.int .i64 a, .int .i64 b]] w fun e w' => e = .returned (.bool (decide (b < a))) ∧ Below w.heap.size w w' := by
  go_enter Tryz.func113, Tryz.ntmps113
  go_wp2_with fail
  all_goals (go_ret; exact ⟨ret_bool (by simp [*]), (by repeat (first | exact Below.refl _ _ | assumption | refine balloc ?_ _ | refine below_trans ?_ (by assumption) | refine Below.drew ?_ | refine below_drewN ?_ _ | refine Below.setCell ?_ (by simp <;> omega) _))⟩)
set_option maxRecDepth 100000 in
set_option maxHeartbeats 800000 in
theorem idx161 (v : Value) (ss : List (Int × Int)) (w : World) (hv : SpansAt w v ss) (hn : ss.length ≤ 1000000) :
    Calls Tryz.prog 161 #[v, .func (.func 113) #[] #[]] w fun e w' => e = .returned (.int .i64 (idxFrom (spBad ss) ss.length 0)) ∧ Below w.heap.size w w' := by
  obtain ⟨a, c, rfl, hx⟩ := id hv
  clear hx
  have HV := Lib.hid hv
  clear hv
  go_enter Tryz.func161, Tryz.ntmps161
  go_wp2_with fail
  go_loopw [8] (fun i wr => ∃ k : Nat, k ≤ ss.length ∧ i = .int .i64 k ∧ Below w.heap.size w wr ∧ Hid (idxFrom (spBad ss) ss.length 0 = idxFrom (spBad ss) (ss.length - k) k)) (fun i _ => ss.length - (intOf i).toNat)
  case atStart => exact ⟨0, Nat.zero_le _, rfl, Below.refl _ _, rfl⟩
  case round =>
    obtain ⟨k, hk, rfl, hB, HI⟩ := hrel
    by_cases hlt : k < ss.length
    · obtain ⟨a', c', hac, h0 | ⟨b, off, rfl, hb, hc⟩⟩ := HV.out.below hB
      · omega
      · simp only [Value.slice.injEq] at hac
        obtain ⟨rfl, _, rfl⟩ := hac
        have s0 := hc (k * 2) (by omega)
        have s1 := hc (k * 2 + 1) (by omega)
        rw [spanF_even ss k hlt] at s0
        rw [spanF_odd ss k hlt, ← Nat.add_assoc] at s1
        have HS : Hid (idxFrom (spBad ss) (ss.length - k) k = if spBad ss k then (k : Int) else idxFrom (spBad ss) (ss.length - (k + 1)) (k + 1)) := show _ = _ from by rw [show ss.length - k = (ss.length - (k + 1)) + 1 by omega]; rfl
        have HX : Hid (spBad ss k = decide (ss[k].2 < ss[k].1)) := show _ = _ from by unfold spBad spAt; simp [hlt]
        have HG := Lib.hid (fun W => gt113 ss[k].1 ss[k].2 W)
        rw [← HX.out] at HG
        generalize ss[k].1 = x at *
        generalize ss[k].2 = y at *
        clear hc HX
        cases hs : spBad ss k with
        | true =>
          rw [hs] at HG
          have HS := Lib.hid hs
          rename Hid (idxFrom (spBad ss) (ss.length - k) k = _) => HS1
          clear hs
          go_wp2_with fail
          refine (HG.out _).mono ?_
          rintro e w2 ⟨rfl, hb2⟩
          go_wp2_with fail
          go_ret
          exact ⟨ret_int (by rw [HI.out, HS1.out, if_pos HS.out]), below_trans hB hb2⟩
        | false =>
          rw [hs] at HG
          have HS := Lib.hid hs
          rename Hid (idxFrom (spBad ss) (ss.length - k) k = _) => HS1
          clear hs
          go_wp2_with fail
          refine (HG.out _).mono ?_
          rintro e w2 ⟨rfl, hb2⟩
          have hB2 := below_trans hB hb2
          go_wp2_with fail
          go_roundw
          case rel => exact ⟨k + 1, by omega, by go_num, hB2, by unfold Hid; rw [HI.out, HS1.out, if_neg (by rw [HS.out]; simp)]⟩
          case measure => simp [intOf]; omega
    · obtain rfl : k = ss.length := by omega
      go_wp2_with fail
      go_ret
      exact ⟨ret_int (by rw [HI.out, Nat.sub_self]; rfl), hB⟩
set_option maxHeartbeats 400000 in
theorem contains112 (v : Value) (ss : List (Int × Int)) (w : World) (hv : SpansAt w v ss) (hn : ss.length ≤ 1000000) :
    Calls Tryz.prog 112 #[v, .func (.func 113) #[] #[]] w fun e w' => e = .returned (.bool (anyB (spBad ss) ss.length)) ∧ Below w.heap.size w w' := by
  have HV := Lib.hid hv
  clear hv
  have HE : Hid (anyB (spBad ss) ss.length = decide (0 ≤ idxFrom (spBad ss) ss.length 0)) := show _ = _ from rfl
  have HC := Lib.hid (fun W h => idx161 v ss W h hn)
  generalize idxFrom (spBad ss) ss.length 0 = r at *
  go_enter Tryz.func112, Tryz.ntmps112
  go_wp2_with fail
  refine (HC.out _ HV.out).mono ?_
  rintro e w2 ⟨rfl, hb2⟩
  go_wp2_with fail
  all_goals (go_ret; refine ⟨ret_bool ?_, hb2⟩)
  all_goals (rw [HE.out]; first | done | simp [*])
/-- a state: six spans -/
structure St where
  xl : Int
  xh : Int
  yl : Int
  yh : Int
  zl : Int
  zh : Int
  ul : Int
  uh : Int
  vl : Int
  vh : Int
  wl : Int
  wh : Int
def St.sp (s : St) : List (Int × Int) := [(s.xl, s.xh), (s.yl, s.yh), (s.zl, s.zh), (s.ul, s.uh), (s.vl, s.vh), (s.wl, s.wh)]
def St.cs (s : St) : Array Value := #[.int .i64 s.xl, .int .i64 s.xh, .int .i64 s.yl, .int .i64 s.yh, .int .i64 s.zl, .int .i64 s.zh, .int .i64 s.ul, .int .i64 s.uh, .int .i64 s.vl, .int .i64 s.vh, .int .i64 s.wl, .int .i64 s.wh]
def St.bad (s : St) : Bool := anyB (spBad s.sp) 6
theorem St.bad_eq (s : St) : s.bad = (decide (s.xh < s.xl) || decide (s.yh < s.yl) || decide (s.zh < s.zl) || decide (s.uh < s.ul) || decide (s.vh < s.vl) || decide (s.wh < s.wl)) := by
  unfold St.bad
  rw [Bool.eq_iff_iff, anyB_true]
  simp only [Bool.or_eq_true, decide_eq_true_eq]
  constructor
  · rintro ⟨j, hj, h⟩
    have : j = 0 ∨ j = 1 ∨ j = 2 ∨ j = 3 ∨ j = 4 ∨ j = 5 := by omega
    rcases this with rfl | rfl | rfl | rfl | rfl | rfl <;> (simp [spBad, spAt, St.sp] at h; simp [h])
  · intro h
    rcases h with ((((h | h) | h) | h) | h) | h
    · exact ⟨0, by omega, by simp [spBad, spAt, St.sp, h]⟩
    · exact ⟨1, by omega, by simp [spBad, spAt, St.sp, h]⟩
    · exact ⟨2, by omega, by simp [spBad, spAt, St.sp, h]⟩
    · exact ⟨3, by omega, by simp [spBad, spAt, St.sp, h]⟩
    · exact ⟨4, by omega, by simp [spBad, spAt, St.sp, h]⟩
    · exact ⟨5, by omega, by simp [spBad, spAt, St.sp, h]⟩
set_option maxRecDepth 100000 in
set_option maxHeartbeats 800000 in
theorem empty111 (s : St) (w : World) : Calls Tryz.prog 111 #[.agg s.cs] w fun e w' => e = .returned (.bool s.bad) ∧ Below w.heap.size w w' := by
  have HC := Lib.hid (fun v W (h : SpansAt W v s.sp) => contains112 v s.sp W h (by simp [St.sp]))
  have hbe : anyB (spBad s.sp) s.sp.length = s.bad := rfl
  rw [hbe] at HC
  have HSP : Hid (∀ W : World, SpansAt (W.alloc (.cells s.cs 23)) (.slice (some ⟨W.heap.size, 0, none⟩) 6 6) s.sp) := fun W => by
    refine row_new (n := 6) (cellsNew W s.cs 23) (fun i hi => ?_)
    have : i = 0 ∨ i = 1 ∨ i = 2 ∨ i = 3 ∨ i = 4 ∨ i = 5 ∨ i = 6 ∨ i = 7 ∨ i = 8 ∨ i = 9 ∨ i = 10 ∨ i = 11 := by omega
    rcases this with rfl | rfl | rfl | rfl | rfl | rfl | rfl | rfl | rfl | rfl | rfl | rfl <;> rfl
  generalize s.bad = bb at *
  generalize s.sp = sp at *
  obtain ⟨xl, xh, yl, yh, zl, zh, ul, uh, vl, vh, wl, wh⟩ := s
  unfold St.cs at HSP ⊢
  simp only at HSP ⊢
  clear hbe
  go_enter Tryz.func111, Tryz.ntmps111
  go_wp2_with fail
  have hsp := HSP.out (w.alloc (.cells #[.int .i64 xl, .int .i64 xh, .int .i64 yl, .int .i64 yh, .int .i64 zl, .int .i64 zh, .int .i64 ul, .int .i64 uh, .int .i64 vl, .int .i64 vh, .int .i64 wl, .int .i64 wh] 182))
  rw [World.size_alloc] at hsp
  refine (HC.out _ _ hsp).mono ?_
  rintro e w2 ⟨rfl, hb2⟩
  clear hsp
  go_wp2_with fail
  go_ret
  exact ⟨rfl, below_trans (balloc (balloc (Below.refl _ _) _) _) hb2⟩
end Go.Proofs.YtmglbegbijofkaaGreatDoor
