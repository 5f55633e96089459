import Derived.RangeFuncMany
import Derived.RangeFuncLeaves
import Derived.Sort.MapsRangeIn
import Derived.Lib.SlKeysI
import Derived.WalkKit
import Derived.OwnWalkIn
import Derived.TacticsInMore
import Derived.RegionIn
import Derived.LoopNIn
import Derived.LoopIn
import Derived.Shelf.Abstract
import Derived.Test.YtmglbegbijofkaaGreatDoorQ32
import Derived.Test.YtmglbegbijofkaaGreatDoorQ25
set_option linter.unusedVariables false
set_option linter.unusedSimpArgs false
/- maps.Values of a map of notices by their numbers: the iterator for every loop body. -/
namespace Go.Proofs.YtmglbegbijofkaaGreatDoor
open Go.RowKit Go.Maps Go.Sort Go.Shelf
theorem lawI3 : Keyed Tryz.prog 3 := int_keyed Tryz.underlying3
/-- its spans are small numbers -/
def okN (x : NT) : Bool := !outB x.xl (-3000) 3000 && !outB x.xh (-3000) 3000 && !outB x.yl (-3000) 3000 && !outB x.yh (-3000) 3000
abbrev NTo := { x : NT // okN x = true }
theorem okN_bd {x : NT} (h : okN x = true) : (-3000 ≤ x.xl ∧ x.xl ≤ 3000) ∧ (-3000 ≤ x.xh ∧ x.xh ≤ 3000) ∧ (-3000 ≤ x.yl ∧ x.yl ≤ 3000) ∧ -3000 ≤ x.yh ∧ x.yh ≤ 3000 := by
  unfold okN at h
  simp only [Bool.and_eq_true, Bool.not_eq_true'] at h
  obtain ⟨⟨⟨h1, h2⟩, h3⟩, h4⟩ := h
  exact ⟨outB_false.1 h1, outB_false.1 h2, outB_false.1 h3, outB_false.1 h4⟩
theorem okN_of {x : NT} (h : NtOK x) : okN x = true := by
  obtain ⟨k0, k1, k2, k3, k4, k5, k6, k7, k8, k9, k10⟩ := h
  unfold okN
  rw [outB_false.2 (show -3000 ≤ x.xl ∧ x.xl ≤ 3000 by omega), outB_false.2 (show -3000 ≤ x.xh ∧ x.xh ≤ 3000 by omega), outB_false.2 (show -3000 ≤ x.yl ∧ x.yl ≤ 3000 by omega), outB_false.2 (show -3000 ≤ x.yh ∧ x.yh ≤ 3000 by omega)]
  rfl
def ntR {H : Type} : Value → Option (DataW H × List MemPlace)
  | .agg ⟨[.int .i64 n, .bool c, .int .i64 f, .int .i64 u, .int .i64 a, .int .i64 b, .int .i64 d, .int .i64 e]⟩ => if okN ⟨n, c, f, u, a, b, d, e⟩ then some (ntD ⟨n, c, f, u, a, b, d, e⟩, []) else none
  | _ => none
theorem ntR_mk {H : Type} (x : NT) (h : okN x = true) : ntR (H := H) (.agg (ntV x)) = some (ntD x, []) := if_pos h
theorem ntR_inv {H : Type} {v : Value} {y : DataW H × List MemPlace} (h : ntR v = some y) : ∃ x : NTo, v = .agg (ntV x.1) ∧ y = (ntD x.1, []) := by
  unfold ntR at h
  split at h
  · rename_i n c f u a b d e
    split at h
    · rename_i hok
      simp only [Option.some.injEq] at h
      exact ⟨⟨⟨n, c, f, u, a, b, d, e⟩, hok⟩, rfl, h.symm⟩
    · cases h
  · cases h
def pairN (p : Int × NTo) : Int × NT := (p.1, p.2.1)
theorem map_pairN (ps : List (Int × NTo)) : (ps.map pairN).map (·.1) = ps.map (·.1) := by rw [List.map_map]; rfl
theorem partN {H : Type} {D0 : DataW H} {left : Lit → Bool} {ps : List (Int × NTo)} (hC : CollectedI D0 left (ps.map (·.1))) (hV : ∀ p ∈ ps, ValAtN D0 (pairN p)) : PartOfN D0 (ps.map pairN) := by
  refine ⟨by rw [map_pairN]; exact hC.1, fun y hy => ?_, fun p hp => ?_⟩
  · rw [map_pairN] at hy
    exact ((hC.2 y).1 hy).1
  · obtain ⟨q, hq, rfl⟩ := List.mem_map.1 hp
    exact hV q hq
theorem allN {H : Type} {D0 : DataW H} {left : Lit → Bool} {ps : List (Int × NTo)} (hC : CollectedI D0 left (ps.map (·.1))) (hV : ∀ p ∈ ps, ValAtN D0 (pairN p)) (hl : ∀ kl, left kl = false) : AllOfN D0 (ps.map pairN) := by
  refine ⟨by rw [map_pairN]; exact hC.1, fun y => ?_, (partN hC hV).2.2⟩
  rw [map_pairN, hC.2 y, hl]; simp
set_option maxRecDepth 100000 in
set_option maxHeartbeats 1000000 in
theorem values190 {H : Type} (F : Fence) (n : Nat) (h8 : F.fn 190) (hro : F.round = none) (hn : 1 ≤ n) (l Bm b nn : Nat) (D0 : DataW H) (J Jx : List NTo → World → Prop)
    (hY : ∀ pre (x : NTo) W, J pre W → pre.length < Maps.size D0 → YieldAt F (n - 1) Tryz.prog l #[.agg (ntV x.1)] W fun e W' =>
      (e = .returned (.bool true) ∧ J (pre ++ [x]) W' ∧ KeepsWalks W W') ∨ (e = .returned (.bool false) ∧ Jx (pre ++ [x]) W'))
    (W : World) (hJ : AbidesFrom W.heap.size J) (hm : W.cell? ⟨Bm, 0, none⟩ = some (.map (some b))) (hown : W.ownsMap Tryz.prog 3 ntR b nn D0) (h0 : J [] W) :
    CallsIn F n Tryz.prog 190 #[.func (.yield l) #[] #[], .pointer (some ⟨Bm, 0, none⟩)] W fun e W' => (∃ v, e = .returned v) ∧
      ((∃ xs, (∃ ps : List (Int × NTo), AllOfN D0 (ps.map pairN) ∧ xs = ps.map (·.2)) ∧ J xs W') ∨ (∃ pre, (∃ ps : List (Int × NTo), PartOfN D0 (ps.map pairN) ∧ pre = ps.map (·.2)) ∧ Jx pre W')) := by
  refine callsIn_of_wp Tryz.func190 rfl h8 ?_ hro
  simp only [Tryz.ntmps190, List.size_toArray, List.length_cons, List.length_nil, Nat.reduceAdd, Nat.reduceSub, Array.replicate_succ, Array.replicate_zero, List.push_toArray, List.append_toArray, List.nil_append, List.cons_append]
  gi_wp2_with (first
    | (gi_at_range; refine wpListIn_range_own _ rfl _ 188 rfl 3 33 lawI3 Tryz.underlying188 _ b nn _ rfl hown ?_; intro w0 hrg0 hg0 hs0)
    | gi_in)
  go_frame
  gi_loopw [4] (fun _ wr => ∃ (left : Lit → Bool) (cnt : Nat) (ps : List (Int × NTo)), wr.ranges Tryz.prog 3 ntR b W.heap.size nn D0 left cnt ∧ ps.length + cnt ≤ Maps.size D0 ∧ CollectedI D0 left (ps.map (·.1)) ∧ (∀ p ∈ ps, ValAtN D0 (pairN p)) ∧ J (ps.map (·.2)) wr)
    (fun _ wr => wr.rangeLeft b W.heap.size)
  case atStart =>
    exact ⟨_, _, [], hrg0, by simp, CollectedI.start D0, by simp, hJ [] W w0 none h0 hg0 (fun r e => by cases e)⟩
  case round =>
    obtain ⟨left, cnt, ps, hrg, hcs, hC, hV, hJs⟩ := hrel
    gi_wp2_with (first
      | (gi_at_next; refine wpListIn_next_ranges _ rfl _ rfl 3 lawI3 ntR encZ (fun x : NTo => Value.agg (ntV x.1)) (fun key kl hk => by obtain ⟨x, hx, _⟩ := Maps.keyOf_i64 Tryz.underlying3 hk; exact ⟨x, hx⟩) (fun v y hv => by obtain ⟨c, rfl, _⟩ := ntR_inv hv; exact ⟨c, rfl⟩) b W.heap.size nn _ _ _ rfl hrg ?_ ?_)
      | gi_in)
    · intro hc0 hl0
      gi_wp2
      go_end0
      exact ⟨⟨_, rfl⟩, .inl ⟨_, ⟨ps, allN hC hV hl0, rfl⟩, hJs⟩⟩
    · intro x c hok kl yd yp w2 cnt2 hkey hlk hv hat hrg2 hlt hg2 hs2 hen
      obtain ⟨x', ex, rfl, _⟩ := Maps.keyOf_i64 Tryz.underlying3 hkey
      obtain rfl : x = x' := encZ_inj ex
      obtain rfl : yd = ntD c := by
        have h1 := ntR_mk (H := H) c hok
        rw [hv] at h1
        exact (Prod.mk.inj (Option.some.inj h1)).1
      have hJ2 : J (ps.map (·.2)) w2 := hJ _ wr w2 (some W.heap.size) hJs hg2 (fun r e => by cases e; exact ⟨Nat.le_refl _, hrg.iter_walk⟩)
      have hJ3 : J (ps.map (·.2)) (w2.alloc (.cells (ntV c) 33)) := hJ _ w2 _ none hJ2 (World.grownBy_alloc _ _ _) (fun r e => by cases e)
      obtain ⟨fn, tmps, assign, body, hy, hR⟩ := hY (ps.map (·.2)) ⟨c, hok⟩ (w2.alloc (.cells (ntV c) 33)) hJ3 (by simp; omega)
      unfold ntV ntc at hy hR hen
      clear hs2
      gi_wp2
      refine hR.mono ?_
      have hC2 : CollectedI D0 (fun z => left z && !z.sameKey (.int .i64 x)) ((ps ++ [(x, (⟨c, hok⟩ : NTo))]).map (·.1)) := by simpa using hC.step hlk hat
      have hV2 : ∀ p ∈ ps ++ [(x, (⟨c, hok⟩ : NTo))], ValAtN D0 (pairN p) := fun p hp => (List.mem_append.1 hp).elim (hV p) (fun e => by simp at e; subst e; exact hat)
      rintro e W3 (⟨rfl, hJ3, hk3⟩ | ⟨rfl, hJx3⟩)
      · gi_wp2
        have hrg3 := hrg2.of_walks ((KeepsWalks.alloc _ _).trans hk3)
        go_roundw
        case rel => exact ⟨_, cnt2, ps ++ [(x, (⟨c, hok⟩ : NTo))], hrg3, by simp; omega, hC2, hV2, by simpa using hJ3⟩
        case measure => rw [hrg3.left_eq, hrg.left_eq]; exact hlt
      · gi_wp2
        refine bodyPost_ret (results_none rfl _ _ _) rfl ?_
        exact ⟨⟨_, rfl⟩, .inr ⟨_, ⟨ps ++ [(x, (⟨c, hok⟩ : NTo))], partN hC2 hV2, by simp⟩, hJx3⟩⟩
set_option maxHeartbeats 1000000 in
theorem values163 (F : Fence) (n : Nat) (hf : F.fn 163) (hro : F.round = none) (mb : Option Nat) (w : World) :
    CallsIn F n Tryz.prog 163 #[.map mb] w fun e w' => e = .returned (.func (.func 190) #[] #[.pointer (some ⟨w.heap.size, 0, none⟩)]) ∧ w' = w.alloc (.cells #[.map mb] 188) := by
  refine callsIn_of_wp Tryz.func163 rfl hf ?_ hro
  simp only [Tryz.ntmps163, List.size_toArray, List.length_cons, List.length_nil, Nat.reduceAdd, Nat.reduceSub, Array.replicate_succ, Array.replicate_zero, List.push_toArray, List.append_toArray, List.nil_append, List.cons_append]
  gi_wp2
  go_ret
  exact ⟨rfl, rfl⟩
theorem values_stopsN {H : Type} (F : Fence) (n : Nat) (h7 : F.fn 190) (hro : F.round = none) (hn : 1 ≤ n) (Bm b nn : Nat) (D0 : DataW H) (w : World) (hBm : Bm < w.heap.size)
    (hm : w.cell? ⟨Bm, 0, none⟩ = some (.map (some b))) (hown : w.ownsMap Tryz.prog 3 ntR b nn D0) :
    SeqStops F n Tryz.prog 190 #[.pointer (some ⟨Bm, 0, none⟩)] (fun x : NTo => Value.agg (ntV x.1)) (fun xs => ∃ ps : List (Int × NTo), AllOfN D0 (ps.map pairN) ∧ xs = ps.map (·.2)) (fun pre => ∃ ps : List (Int × NTo), PartOfN D0 (ps.map pairN) ∧ pre = ps.map (·.2)) (Maps.size D0) w := fun l J Jx W hW hJ _ hY h0 => by
  have hown' : W.ownsMap Tryz.prog 3 ntR b nn D0 := by
    have hbl := hown.lt
    obtain ⟨es, clock, hb, Ft, hs, hD⟩ := hown
    exact ⟨es, clock, (hW.block b hbl).trans hb, Ft, hs, hD⟩
  exact values190 F n h7 hro hn l Bm b nn D0 J Jx hY W hJ ((hW.cell (p := ⟨Bm, 0, none⟩) hBm).trans hm) hown' h0
end Go.Proofs.YtmglbegbijofkaaGreatDoor
