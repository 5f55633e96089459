import Derived.Test.YtmglbegbijofkaaGreatDoorQ18
import Derived.Test.YtmglbegbijofkaaGreatDoorQ04
import Derived.Test.YtmglbegbijofkaaGreatDoorQ14
set_option linter.unusedVariables false
set_option linter.unusedSimpArgs false
namespace Go.Proofs.YtmglbegbijofkaaGreatDoor
open Go.RowKit Go.Maps Go.Sort Go.Shelf

/-- the cells of a notice -/
def ntc (n : Int) (c : Bool) (f u xl xh yl yh : Int) : Array Value := #[.int .i64 n, .bool c, .int .i64 f, .int .i64 u, .int .i64 xl, .int .i64 xh, .int .i64 yl, .int .i64 yh]
def zeroN : Array Value := ntc 0 false 0 0 0 0 0 0
set_option maxRecDepth 100000 in
set_option maxHeartbeats 800000 in
/-- Parse's deferred function where a panic with an error comes by -/
theorem catch_panic (B bx be : Nat) (hBx : B ≤ bx) (hBe : B ≤ be) (k k0 : Int) (n : Int) (c : Bool) (f u xl xh yl yh : Int) (older : List PanicEntry) (W : World) (hne : bx ≠ be) (hx : cellsAt W bx 33 (ntc n c f u xl xh yl yh)) (he : cellsAt W be 29 #[.int .i64 k0]) :
    CallsD Tryz.prog 73 #[.pointer (some ⟨bx, 0, none⟩), .pointer (some ⟨be, 0, none⟩)] (.panicking ({ v := .iface 29 (.int .i64 k), recovered := false } :: older)) W fun e u' w' =>
      e = .returned (.tuple #[]) ∧ u' = .panicking ({ v := .iface 29 (.int .i64 k), recovered := true } :: older) ∧ cellsAt w' bx 33 zeroN ∧ cellsAt w' be 29 #[.int .i64 k] ∧ Below B W w' := by
  have c0 := hx.cell 0
  have c1 := hx.cell 1
  have c2 := hx.cell 2
  have c3 := hx.cell 3
  have c4 := hx.cell 4
  have c5 := hx.cell 5
  have c6 := hx.cell 6
  have c7 := hx.cell 7
  have ce := he.cell 0
  have fz := hx.frozen
  have fe := he.frozen 0
  simp [ntc] at c0 c1 c2 c3 c4 c5 c6 c7 ce
  have hta : ∀ w : World, (Instr.typeAssert (.iface 29 (.int .i64 k)) 20 29 false).run Tryz.prog w = .ok (.int .i64 k) w := fun _ => by kernel_rfl
  refine callsD_of_wpS Tryz.func73 rfl fun c₀ cs hu => ?_
  apply wpS_seq
  apply wpS_region
  simp [wpOpsS, go_sem, recoverD, hu, Tryz.ntmps73, Exit.thenS]
  refine wpS_of_wp ?_
  simp only [Array.replicate_succ, Array.replicate_zero, List.push_toArray, List.append_toArray, List.nil_append, List.cons_append, List.setIfInBounds_toArray, List.set_cons_zero, List.set_cons_succ]
  go_wp2_with fail
  go_region
  have y1 := ((((((((hx.set 0 (.int .i64 0)).set 1 (.bool false)).set 2 (.int .i64 0)).set 3 (.int .i64 0)).set 4 (.int .i64 0)).set 5 (.int .i64 0)).set 6 (.int .i64 0)).set 7 (.int .i64 0)).set_other (p := ⟨be, 0, none⟩) (fun e => hne e.symm) (.int .i64 k)
  have y2 := ((((((((he.set_other (p := ⟨bx, 0, none⟩) hne (.int .i64 0)).set_other (p := ⟨bx, 1, none⟩) hne (.bool false)).set_other (p := ⟨bx, 2, none⟩) hne (.int .i64 0)).set_other (p := ⟨bx, 3, none⟩) hne (.int .i64 0)).set_other (p := ⟨bx, 4, none⟩) hne (.int .i64 0)).set_other (p := ⟨bx, 5, none⟩) hne (.int .i64 0)).set_other (p := ⟨bx, 6, none⟩) hne (.int .i64 0)).set_other (p := ⟨bx, 7, none⟩) hne (.int .i64 0)).set 0 (.int .i64 k)
  simp only [ntc, List.setIfInBounds_toArray, List.set_cons_zero, List.set_cons_succ] at y1 y2
  have hY1 := Lib.hid y1
  have hY2 := Lib.hid y2
  clear y1 y2 c0 c1 c2 c3 c4 c5 c6 c7 ce fz fe hx he
  change bodyPostS Tryz.prog Tryz.f73 c₀ cs _ Exit.normal _ _ _
  refine ⟨rfl, _, rfl, .tuple #[], results_none rfl _ _ _, rfl, rfl, ?_, ?_, ?_⟩
  · exact hY1.out.drew
  · exact hY2.out.drew
  repeat (first | with_reducible exact Below.refl _ _ | with_reducible refine Below.drew ?_ | (with_reducible refine Below.setCell ?_ ?_ _; rotate_left; first | exact hBx | exact hBe))

set_option maxRecDepth 100000 in
set_option maxHeartbeats 800000 in
theorem catch_none (bx be : Nat) (W : World) :
    CallsD Tryz.prog 73 #[.pointer (some ⟨bx, 0, none⟩), .pointer (some ⟨be, 0, none⟩)] .returning W fun e u' w' =>
      e = .returned (.tuple #[]) ∧ u' = .returning ∧ w' = W := by
  refine callsD_of_wpS Tryz.func73 rfl fun c₀ cs hu => ?_
  apply wpS_seq
  apply wpS_region
  simp [wpOpsS, go_sem, recoverD, hu, Tryz.ntmps73, Exit.thenS]
  refine wpS_of_wp ?_
  simp only [Array.replicate_succ, Array.replicate_zero, List.push_toArray, List.append_toArray, List.nil_append, List.cons_append, List.setIfInBounds_toArray, List.set_cons_zero, List.set_cons_succ]
  go_wp2_with fail
  cases c₀
  simp_all [bodyPostS, results, Tryz.results73]

set_option maxRecDepth 100000 in
set_option maxHeartbeats 800000 in
/-- Parse of one word that is not NOTICE -/
theorem parse_one (s : List UInt8) (hs : s.length ≤ 8796093022000) (x : List UInt8) (hw : wordsL s = [x]) (hx : ¬ x = [78, 79, 84, 73, 67, 69]) (w : World) :
    Calls Tryz.prog 22 #[.string ⟨s.toArray⟩] w fun e w' => e = .returned (.tuple #[.agg zeroN, .int .i64 6]) ∧ Below w.heap.size w w' := by
  have hmf : ∀ (fn : Fn) (first cap : Array Value) (w : World), (Instr.makeFunc fn first cap).run Tryz.prog w = .ok (.func fn first cap) w := fun _ _ _ _ => rfl
  have HW := Lib.hid hw
  have HX := Lib.hid hx
  clear hw hx
  go_enter_defers Tryz.func22, Tryz.ntmps22
  go_wp2_with fail
  refine (words_any _ _).mono ?_
  rintro e w1 ⟨rfl, rfl⟩
  go_wp2_with fail
  have hB0 : Below w.heap.size w (((w.alloc (.cells (ntc 0 false 0 0 0 0 0 0) 33)).alloc (.cells #[.int .i64 0] 29)).alloc (.cells #[.string ⟨s.toArray⟩] 9)) := (by repeat (first | exact Below.refl _ _ | assumption | refine balloc ?_ _ | refine below_trans ?_ (by assumption) | refine Below.drew ?_ | refine below_drewN ?_ _ | refine Below.setCell ?_ (by simp <;> omega) _))
  have hx0 : cellsAt (((w.alloc (.cells (ntc 0 false 0 0 0 0 0 0) 33)).alloc (.cells #[.int .i64 0] 29)).alloc (.cells #[.string ⟨s.toArray⟩] 9)) w.heap.size 33 zeroN :=
    (Below.heap_alloc _ _ _ (by simp; omega)).trans ((Below.heap_alloc _ _ _ (by simp)).trans (World.alloc_heap_new w _))
  have he0 : cellsAt (((w.alloc (.cells (ntc 0 false 0 0 0 0 0 0) 33)).alloc (.cells #[.int .i64 0] 29)).alloc (.cells #[.string ⟨s.toArray⟩] 9)) (w.heap.size + 1) 29 #[.int .i64 0] := by
    have h1 := World.alloc_heap_new (w.alloc (.cells (ntc 0 false 0 0 0 0 0 0) 33)) (.cells #[.int .i64 0] 29)
    rw [World.size_alloc] at h1
    exact (Below.heap_alloc _ _ _ (by simp)).trans h1
  have hs0 : (((w.alloc (.cells (ntc 0 false 0 0 0 0 0 0) 33)).alloc (.cells #[.int .i64 0] 29)).alloc (.cells #[.string ⟨s.toArray⟩] 9)).heap[w.heap.size + 1 + 1]? = some (.cells #[.string ⟨s.toArray⟩] 9 (0, 0)) := by
    have h1 := World.alloc_heap_new ((w.alloc (.cells (ntc 0 false 0 0 0 0 0 0) 33)).alloc (.cells #[.int .i64 0] 29)) (.cells #[.string ⟨s.toArray⟩] 9)
    rw [World.size_alloc, World.size_alloc] at h1
    exact h1
  have hz0 : (((w.alloc (.cells (ntc 0 false 0 0 0 0 0 0) 33)).alloc (.cells #[.int .i64 0] 29)).alloc (.cells #[.string ⟨s.toArray⟩] 9)).heap.size = w.heap.size + 3 := by simp
  unfold ntc at hB0 hx0 he0 hs0 hz0
  have HX0 := Lib.hid hx0
  have HE0 := Lib.hid he0
  have HS0 := Lib.hid hs0
  have HZ0 := Lib.hid hz0
  clear hx0 he0 hs0 hz0
  generalize ((w.alloc (.cells #[.int .i64 0, .bool false, .int .i64 0, .int .i64 0, .int .i64 0, .int .i64 0, .int .i64 0, .int .i64 0] 33)).alloc (.cells #[.int .i64 0] 29)).alloc (.cells #[.string ⟨s.toArray⟩] 9) = W0 at *
  refine (collect_words cutSp (w.heap.size + 1 + 1) s hs W0 HS0.out).mono ?_
  rintro e w2 ⟨v, rfl, hrow, hb⟩
  rw [HW.out] at hrow
  obtain ⟨g, cap, cur, rfl, hg1, hg2, hg3, hg4, hg5, hg6⟩ : ∃ g cap cur, v = .slice (some ⟨g, 0, none⟩) 1 cap ∧ w.heap.size + 1 + 1 + 1 ≤ g ∧ w2.heap[g]? = some (.cells cur 9 (0, 0)) ∧ 1 ≤ cap ∧ cap ≤ maxLen ∧ cur.size = cap * 1 ∧ cur.toList.take (1 * 1) = [encStr x] := by
    rcases hrow.2 with ⟨_, h0⟩ | h'
    · exact absurd h0 (by simp)
    · simpa using h'
  have hglt : g < w2.heap.size := (Array.getElem?_eq_some_iff.1 hg2).1
  have hgc : w2.cell? ⟨g, 0, none⟩ = some (encStr x) := by
    have : cur[0]? = some (encStr x) := by
      rw [← Array.getElem?_toList]
      cases hcl : cur.toList with
      | nil => rw [hcl] at hg6; simp at hg6
      | cons y ys => rw [hcl] at hg6; simpa using hg6
    simp [World.cell?, hg2, this]
  have hz2 : w.heap.size + 3 ≤ w2.heap.size := by have := hb.size; rw [HZ0.out] at this; omega
  have hx2 : cellsAt w2 w.heap.size 33 zeroN := (hb.block _ (by omega)).trans HX0.out
  have he2 : cellsAt w2 (w.heap.size + 1) 29 #[.int .i64 0] := (hb.block _ (by omega)).trans HE0.out
  have hB2 : Below w.heap.size w w2 := hB0.trans (hb.mono (by omega))
  have hrd : RdAt (w2.alloc (.cells #[.slice (some ⟨g, 0, none⟩) 1 cap] 141)) w2.heap.size [x] := by
    obtain ⟨hc1, hf1⟩ := cell_of_box_a (World.alloc_heap_new w2 (.cells #[.slice (some ⟨g, 0, none⟩) 1 cap] 141))
    refine ⟨_, cap, hc1, hf1, by simpa using hg3, .inr ⟨g, 0, rfl, hglt, fun i hi => ?_⟩⟩
    obtain rfl : i = 0 := by simp at hi; omega
    have := ((balloc (Below.refl _ w2) (.cells #[.slice (some ⟨g, 0, none⟩) 1 cap] 141)).cell (p := ⟨g, 0, none⟩) hglt).trans hgc
    simpa using this
  have HRD := Lib.hid hrd
  have HX2 := Lib.hid hx2
  have HE2 := Lib.hid he2
  clear hrd hx2 he2 hrow hg6 hg5 hg2 hgc
  go_wp2_with fail
  refine (notice_one w2.heap.size x _ HRD.out HX.out).mono ?_
  rintro e w3 ⟨rfl, hg3⟩
  go_wp2_with fail
  have hx3 : cellsAt w3 w.heap.size 33 zeroN := (hg3.block _ (by simp; omega) (ne_some (by omega))).trans ((Below.heap_alloc _ _ _ (by omega)).trans HX2.out)
  have he3 : cellsAt w3 (w.heap.size + 1) 29 #[.int .i64 0] := (hg3.block _ (by simp; omega) (ne_some (by omega))).trans ((Below.heap_alloc _ _ _ (by omega)).trans HE2.out)
  have hB3 : Below w.heap.size w w3 := (balloc hB2 _).grown hg3 (by simp; omega) (fun k e => by cases e; omega)
  refine leaves_cons (f := 73) (args := #[.pointer (some ⟨w.heap.size, 0, none⟩), .pointer (some ⟨w.heap.size + 1, 0, none⟩)]) (by simp) (by simp [go_sem]) ?_
  refine (catch_panic w.heap.size w.heap.size (w.heap.size + 1) (Nat.le_refl _) (by omega) 6 0 0 false 0 0 0 0 0 0 [] w3 (by omega) hx3 he3).mono ?_
  rintro e u' w4 ⟨rfl, rfl, hx4, he4, hB4⟩
  have d0 := hx4.cell 0
  have d1 := hx4.cell 1
  have d2 := hx4.cell 2
  have d3 := hx4.cell 3
  have d4 := hx4.cell 4
  have d5 := hx4.cell 5
  have d6 := hx4.cell 6
  have d7 := hx4.cell 7
  have de := he4.cell 0
  simp [zeroN, ntc] at d0 d1 d2 d3 d4 d5 d6 d7 de
  simp [Leaves, settle, results, Tryz.results22, go_sem, d0, d1, d2, d3, d4, d5, d6, d7, de]
  exact ⟨rfl, hB3.trans hB4⟩
end Go.Proofs.YtmglbegbijofkaaGreatDoor
namespace Go.Proofs.YtmglbegbijofkaaGreatDoor
open Go.RowKit Go.Shelf Go.Sort

def mkIdx (n : Nat) (hn : 0 < n) (x : Int) : Idx n := if h : x.toNat < n then ⟨x.toNat, h⟩ else ⟨0, hn⟩
def dI (zs : List Int) (hn : 0 < zs.length) (L : List Int) : Array (Idx zs.length) := (L.map (mkIdx zs.length hn)).toArray
/-- the cells in the order of the stable sort, below 20 -/
def stS (zs : List Int) (hn : 0 < zs.length) (L : List Int) : List Int := (@Sort.insertionSort (Idx zs.length) ⟨⟨0, hn⟩⟩ (ltOf (cfI zs)) (dI zs hn L) 0 L.length).toList.map fun x => (x.i : Int)
/-- SortStableFunc of the cells L by the people zs gives S -/
def StableC (zs L S : List Int) : Prop :=
  ∀ (bm blk cap : Nat) (pv : Value) (W : World), W.cell? ⟨bm, 5, none⟩ = some pv → IntsAt W pv zs → bm ≠ blk → (∀ b o m c, pv = .slice (some ⟨b, o, none⟩) m c → b ≠ blk) →
    (∀ j, j < L.length → W.cell? ⟨blk, j, none⟩ = some (intF L j) ∧ W.frozen? ⟨blk, j, none⟩ = false) → blk < W.heap.size →
    Calls Tryz.prog 82 #[.slice (some ⟨blk, 0, none⟩) L.length cap, .func (.func 83) #[] #[.pointer (some ⟨bm, 0, none⟩)]] W fun e w' =>
      e = .returned (.tuple #[]) ∧ W.grownBy w' (some blk) ∧ ∀ j, j < S.length → w'.cell? ⟨blk, j, none⟩ = some (intF S j)
theorem cfI_lt (zs : List Int) (x y : Idx zs.length) : ltOf (cfI zs) x y = decide (zs.getD y.i 0 < zs.getD x.i 0) := by
  unfold ltOf cfI Lib.compareInt
  generalize zs.getD y.i 0 = p
  generalize zs.getD x.i 0 = q
  by_cases h : p < q
  · simp [h]
  · by_cases h2 : p > q
    · simp [h, h2]
    · simp [h, h2]
theorem swo_cfI (zs : List Int) : SWO (ltOf (cfI zs)) :=
  ⟨fun x => by rw [cfI_lt]; simp, fun x y z h1 h2 => by rw [cfI_lt] at *; simp only [decide_eq_true_eq] at *; omega, fun x y z h1 h2 => by rw [cfI_lt] at *; simp only [decide_eq_false_iff_not] at *; omega⟩
theorem sw_grown {α : Type} [Inhabited α] (enc : α → Value) (w : World) (blk off m : Nat) (dk : Array α) (os : Array Obj) : w.grownBy (sortWorld enc w blk off m dk os) (some blk) :=
  ⟨rfl, rfl, rfl, sw_size enc w blk off m dk os, fun k hk hne => sw_block enc w blk off m dk os hk (fun e => hne (by rw [e]))⟩
theorem stable_list (zs : List Int) (hn : 0 < zs.length) (L : List Int) (hL : ∀ x ∈ L, 0 ≤ x ∧ x < zs.length) (h20 : L.length < 20) : StableC zs L (stS zs hn L) := by
  letI : Inhabited (Idx zs.length) := ⟨⟨0, hn⟩⟩
  intro bm blk cap pv W hm hv hne hpv hcells hblk
  have hds : (dI zs hn L).size = L.length := by simp [dI]
  have hdj : ∀ j, j < L.length → encI (dI zs hn L)[j]! = intF L j := fun j hj => by
    have h1 := hL L[j] (List.getElem_mem hj)
    have h2 : L[j].toNat < zs.length := by omega
    have h3 : ((L[j].toNat : Nat) : Int) = L[j] := by omega
    rw [getElem!_pos _ j (by rw [hds]; exact hj)]
    simp [dI, mkIdx, h2, encI, intF, hj, h3]
  have hH : Holds encI W blk 0 (dI zs hn L) := fun j hj => by
    rw [hds] at hj
    rw [Nat.zero_add, hdj j hj]
    exact hcells j hj
  have hc := sortStable_small zs hn bm blk 0 cap pv (dI zs hn L) W hm hv hne hpv hblk hH (by omega)
  rw [hds] at hc
  refine hc.mono fun e w' ⟨he, hs⟩ => ⟨he, ?_, ?_⟩
  · obtain ⟨n, os, rfl⟩ := hs
    exact sw_grown _ _ _ _ _ _ _
  · have hp := (insertionSort_holds (lt := ltOf (cfI zs)) (swo_cfI zs) (dI zs hn L) 0 L.length (by omega) (by omega)).1
    have hHs := hs.holds hblk hH hp.1
    intro j hj
    have hj2 : j < (Sort.insertionSort (ltOf (cfI zs)) (dI zs hn L) 0 L.length).size := by simpa [stS] using hj
    have h1 := (hHs j hj2).1
    rw [Nat.zero_add] at h1
    rw [h1, getElem!_pos _ j hj2]
    simp [stS, intF, encI, hj2]

/-- SortFunc of parts, in lists -/
theorem sortParts_list (g cap : Nat) (ps : List (Int × Int)) (w : World) (hg : g < w.heap.size) (hf : ∀ i, i < ps.length * 2 → w.frozen? ⟨g, i, none⟩ = false) (hc : ∀ i, i < ps.length * 2 → w.cell? ⟨g, i, none⟩ = some (spanF ps i)) (hsz : ps.length < 4611686018427387904) :
    Calls Tryz.prog 86 #[.slice (some ⟨g, 0, none⟩) ps.length cap, .func (.func 87) #[] #[]] w fun e w' => e = .returned (.tuple #[]) ∧ w.grownBy w' (some g) ∧ ∃ qs : List (Int × Int), qs.Perm ps ∧ qs.Pairwise (fun x y => x.1 ≤ y.1) ∧ ∀ i, i < ps.length * 2 → w'.cell? ⟨g, i, none⟩ = some (spanF qs i) := by
  have hsp : ∀ (qs : List (Int × Int)) i, i < qs.length * 2 → (flatK encP 2 qs.toArray)[i]! = spanF qs i := fun qs i hi => by
    rw [get_flatK _ _ _ _ (by simpa using hi)]
    have h2 : i / 2 < qs.length := by omega
    have h3 : i % 2 < 2 := Nat.mod_lt _ (by omega)
    rcases Nat.mod_two_eq_zero_or_one i with h | h
    · simp [encP, spanF, h, h2]
    · simp [encP, spanF, h, h2]
  have hH : HoldsK encP 2 w g 0 ps.toArray := fun j hj => by
    have hj' : j < ps.length * 2 := by simpa using hj
    rw [Nat.zero_add, hsp ps j hj']
    exact ⟨hc j hj', hf j hj'⟩
  have hcon := sortParts_any g 0 cap ps.toArray w hH hg (by simpa using hsz)
  simp only [List.size_toArray] at hcon
  refine hcon.mono fun e w' ⟨he, d', n, os, hp, hs, hw⟩ => ⟨he, ?_, d'.toList, ?_, ?_, ?_⟩
  · rw [hw]; exact sw_grown id w g 0 n (flatK encP 2 d') os
  · have := hp.2.2
    simpa [Array.extract_eq_self_of_le, hp.1] using this
  · rw [List.pairwise_iff_getElem]
    intro i j hi hj hij
    have hz : d'.size = ps.length := by simpa using hp.1
    have h1 := hs i j (Nat.zero_le _) hij (by simpa [hz] using hj)
    rw [ltOf_cfP] at h1
    simp only [decide_eq_false_iff_not] at h1
    rw [getElem!_pos _ i (by simpa using hi), getElem!_pos _ j (by simpa using hj)] at h1
    simpa using h1
  · intro i hi
    have hz : d'.size = ps.length := by simpa using hp.1
    have hHs : HoldsK encP 2 w' g 0 d' := by rw [hw]; exact holds_sortWorld id w g 0 n _ _ os hg hH (by simp [hz])
    have h1 := (hHs i (by simpa [hz] using hi)).1
    rw [Nat.zero_add] at h1
    rw [h1]
    have := hsp d'.toList i (by simpa [hz] using hi)
    simpa using this
end Go.Proofs.YtmglbegbijofkaaGreatDoor
