import Derived.Test.YtmglbegbijofkaaGreatDoorQ01
import Derived.Test.YtmglbegbijofkaaGreatDoorQ02
import Derived.Test.YtmglbegbijofkaaGreatDoorQ07
set_option linter.unusedVariables false
set_option linter.unusedSimpArgs false
namespace Go.Proofs.YtmglbegbijofkaaGreatDoor
open Go.RowKit Go.Shelf Go.Sort

set_option maxHeartbeats 400000 in
theorem giver_any (left most : Int) (w : World) :
    Calls Tryz.prog 85 #[.int .i64 left, .int .i64 most] w fun e w' =>
      e = .returned (.tuple #[.func (.func 145) #[] #[.pointer (some ⟨w.heap.size, 0, none⟩), .pointer (some ⟨w.heap.size + 1, 0, none⟩)], .func (.func 146) #[] #[.pointer (some ⟨w.heap.size, 0, none⟩)]]) ∧ w' = (w.alloc (.cells #[.int .i64 left] 3)).alloc (.cells #[.int .i64 most] 3) := by
  have hmf : ∀ (fn : Fn) (first cap : Array Value) (w : World), (Instr.makeFunc fn first cap).run Tryz.prog w = .ok (.func fn first cap) w := fun _ _ _ _ => rfl
  go_enter Tryz.func85, Tryz.ntmps85
  go_wp2_with fail
  go_ret2
  exact ⟨rfl, rfl⟩

set_option maxHeartbeats 400000 in
theorem give_any (bl bm : Nat) (left most : Int) (w : World) (h1 : w.cell? ⟨bl, 0, none⟩ = some (.int .i64 left)) (h2 : w.cell? ⟨bm, 0, none⟩ = some (.int .i64 most)) (h3 : w.frozen? ⟨bl, 0, none⟩ = false)
    (b1 : 0 ≤ left) (b2 : left ≤ 1000000) (b3 : 1 ≤ most) (b4 : most ≤ 1000000) :
    Calls Tryz.prog 145 #[.pointer (some ⟨bl, 0, none⟩), .pointer (some ⟨bm, 0, none⟩)] w fun e w' =>
      e = .returned (.int .i64 (min left most)) ∧ w' = w.setCell ⟨bl, 0, none⟩ (.int .i64 (left - min left most)) := by
  by_cases h : most < left
  · have HM := Lib.hid (show min left most = most by omega)
    go_enter Tryz.func145, Tryz.ntmps145
    go_wp2_with fail
    go_ret
    rw [HM.out]
    exact ⟨rfl, rfl⟩
  · have HM := Lib.hid (show min left most = left by omega)
    go_enter Tryz.func145, Tryz.ntmps145
    go_wp2_with fail
    go_ret
    rw [HM.out]
    exact ⟨rfl, by simp⟩

set_option maxHeartbeats 400000 in
theorem rest_any (bl : Nat) (left : Int) (w : World) (h1 : w.cell? ⟨bl, 0, none⟩ = some (.int .i64 left)) :
    Calls Tryz.prog 146 #[.pointer (some ⟨bl, 0, none⟩)] w fun e w' => e = .returned (.int .i64 left) ∧ w = w' := by
  go_enter Tryz.func146, Tryz.ntmps146
  go_wp2_with fail
  go_ret
  exact ⟨rfl, rfl⟩

set_option maxHeartbeats 400000 in
/-- Most's comparison of two cells: that with more people first -/
theorem most1_any (bm : Nat) (pv : Value) (zs : List Int) (a b : Nat) (w : World) (hm : w.cell? ⟨bm, 5, none⟩ = some pv) (hv : IntsAt w pv zs) (ha : a < zs.length) (hb : b < zs.length) :
    Calls Tryz.prog 83 #[.int .i64 a, .int .i64 b, .pointer (some ⟨bm, 0, none⟩)] w fun e w' => e = .returned (.int .i64 (Lib.compareInt (zs.getD b 0) (zs.getD a 0))) ∧ ∃ n, w' = w.drewN n := by
  obtain ⟨ad, c, rfl, h0 | ⟨bk, off, rfl, hbk, hc⟩⟩ := hv
  · omega
  · have c1 := hc a (by omega)
    have c2 := hc b (by omega)
    unfold intF at c1 c2
    have hcon := fun x y W => Tryz.cmp_Compare_int x y W
    have HC := Lib.hid hcon
    clear hc hcon
    have z1 : (0 : Int) ≤ (a : Int) := by omega
    have z2 : (a : Int) < (zs.length : Int) := by omega
    have z3 : (0 : Int) ≤ (b : Int) := by omega
    have z4 : (b : Int) < (zs.length : Int) := by omega
    go_enter Tryz.func83, Tryz.ntmps83
    go_wp2_with fail
    go_quiet ((go_at_call 84; exact Calls.quiet_of_same (HC.out _ _ _)))
    go_wp2_with fail
    go_ret
    exact ⟨by simp [List.getElem?_eq_getElem ha, List.getElem?_eq_getElem hb], _, rfl⟩

theorem sw_block {α : Type} [Inhabited α] (enc : α → Value) (w : World) (blk off m : Nat) (dk : Array α) (os : Array Obj) {r : Nat} (hr : r < w.heap.size) (hne : r ≠ blk) : (sortWorld enc w blk off m dk os).heap[r]? = w.heap[r]? := by
  unfold sortWorld
  rw [heap_grow_old _ _ (by simp [putRow, mapBlock]; exact hr)]
  simp only [putRow, mapBlock, Array.getElem?_modify]
  rw [if_neg (fun e => hne e.symm)]
  rfl
theorem sw_cell {α : Type} [Inhabited α] (enc : α → Value) (w : World) (blk off m : Nat) (dk : Array α) (os : Array Obj) {a : Addr} {v : Value} (hc : w.cell? a = some v) (hne : a.block ≠ blk) : (sortWorld enc w blk off m dk os).cell? a = some v := by
  rw [World.cell?_of_block (w := w) (sw_block enc w blk off m dk os (World.block_lt_of_cell? w a hc) hne)]; exact hc
theorem sw_size {α : Type} [Inhabited α] (enc : α → Value) (w : World) (blk off m : Nat) (dk : Array α) (os : Array Obj) : w.heap.size ≤ (sortWorld enc w blk off m dk os).heap.size := by
  simp [sortWorld, grow, putRow, mapBlock, ahead]
/-- an index of the people -/
structure Idx (n : Nat) where
  i : Nat
  h : i < n
def encI {n : Nat} (x : Idx n) : Value := .int .i64 x.i
def cfI (zs : List Int) (x y : Idx zs.length) : Int := Lib.compareInt (zs.getD y.i 0) (zs.getD x.i 0)
theorem cmp83 (zs : List Int) (hn : 0 < zs.length) (bm : Nat) (pv : Value) (blk off size : Nat) (w : World) (hm : w.cell? ⟨bm, 5, none⟩ = some pv) (hv : IntsAt w pv zs) (hne : bm ≠ blk) (hpv : ∀ b o m c, pv = .slice (some ⟨b, o, none⟩) m c → b ≠ blk) :
    @CmpLays1 (Idx zs.length) ⟨⟨0, hn⟩⟩ Tryz.prog 83 #[.pointer (some ⟨bm, 0, none⟩)] encI (cfI zs) blk off size w := by
  letI : Inhabited (Idx zs.length) := ⟨⟨0, hn⟩⟩
  intro m os dk hs x y
  have h1 := sw_cell encI w blk off m dk os hm hne
  have h2 : IntsAt (sortWorld encI w blk off m dk os) pv zs := by
    obtain ⟨a, c, rfl, h0 | ⟨b, o, rfl, hb, hc⟩⟩ := hv
    · exact ⟨a, c, rfl, .inl h0⟩
    · exact ⟨_, c, rfl, .inr ⟨b, o, rfl, Nat.lt_of_lt_of_le hb (sw_size _ _ _ _ _ _ _), fun i hi => sw_cell encI w blk off m dk os (hc i hi) (hpv b o _ c rfl)⟩⟩
  exact (most1_any bm pv zs x.i y.i _ h1 h2 x.h y.h).mono fun e w' ⟨he, q, hq⟩ => ⟨he, q, #[], by rw [hq, grow_empty]⟩

set_option maxRecDepth 100000 in
set_option maxHeartbeats 800000 in
theorem stable_small (zs : List Int) (hn : 0 < zs.length) (bm blk off cap : Nat) (pv : Value) (d : Array (Idx zs.length)) (w : World) (hm : w.cell? ⟨bm, 5, none⟩ = some pv) (hv : IntsAt w pv zs) (hne : bm ≠ blk) (hpv : ∀ b o m c, pv = .slice (some ⟨b, o, none⟩) m c → b ≠ blk)
    (hblk : blk < w.heap.size) (hH : @Holds (Idx zs.length) ⟨⟨0, hn⟩⟩ encI w blk off d) (h20 : d.size < 20) :
    Calls Tryz.prog 143 #[.slice (some ⟨blk, off, none⟩) d.size cap, .int .i64 d.size, .func (.func 83) #[] #[.pointer (some ⟨bm, 0, none⟩)]] w fun e w' =>
      e = .returned (.tuple #[]) ∧ @SW (Idx zs.length) ⟨⟨0, hn⟩⟩ encI w blk off (@Sort.insertionSort (Idx zs.length) ⟨⟨0, hn⟩⟩ (ltOf (cfI zs)) d 0 d.size) w' := by
  letI : Inhabited (Idx zs.length) := ⟨⟨0, hn⟩⟩
  have eg : ∀ args w, (callFunc 83 args).run Tryz.prog w = .ok (.enter 83 args) w := enters_of Tryz.func83 (by kernel_rfl) rfl
  have hcon := Any.insertionSortCmpFunc_s Tryz.insertInts encI (cfI zs) 83 #[.pointer (some ⟨bm, 0, none⟩)] blk off cap 0 d.size d d w w eg (cmp83 zs hn bm pv blk off d.size w hm hv hne hpv) ⟨fun _ => rfl, hH, hblk⟩ rfl (SW.start hH) (by omega) (by omega) (by omega)
  change Calls Tryz.prog 178 _ _ _ at hcon
  have HC := Lib.hid hcon
  clear hcon hH hv hpv
  go_enter Tryz.func143, Tryz.ntmps143
  go_wp2_with fail
  refine wp_loop_rounds 1 ?_
  rw [rounds_succ]
  go_wp2_with fail
  refine HC.out.mono ?_
  rintro e w1 ⟨rfl, hs1⟩
  have HS := Lib.hid hs1
  clear hs1
  go_wp2_with fail
  refine wp_loop_rounds 1 ?_
  rw [rounds_succ]
  go_wp2_with fail
  go_end0
  exact ⟨rfl, HS.out⟩

set_option maxRecDepth 100000 in
set_option maxHeartbeats 800000 in
theorem sortStable_small (zs : List Int) (hn : 0 < zs.length) (bm blk off cap : Nat) (pv : Value) (d : Array (Idx zs.length)) (w : World) (hm : w.cell? ⟨bm, 5, none⟩ = some pv) (hv : IntsAt w pv zs) (hne : bm ≠ blk) (hpv : ∀ b o m c, pv = .slice (some ⟨b, o, none⟩) m c → b ≠ blk)
    (hblk : blk < w.heap.size) (hH : @Holds (Idx zs.length) ⟨⟨0, hn⟩⟩ encI w blk off d) (h20 : d.size < 20) :
    Calls Tryz.prog 82 #[.slice (some ⟨blk, off, none⟩) d.size cap, .func (.func 83) #[] #[.pointer (some ⟨bm, 0, none⟩)]] w fun e w' =>
      e = .returned (.tuple #[]) ∧ @SW (Idx zs.length) ⟨⟨0, hn⟩⟩ encI w blk off (@Sort.insertionSort (Idx zs.length) ⟨⟨0, hn⟩⟩ (ltOf (cfI zs)) d 0 d.size) w' := by
  have HC := Lib.hid (stable_small zs hn bm blk off cap pv d w hm hv hne hpv hblk hH h20)
  clear hH hv hpv
  go_enter Tryz.func82, Tryz.ntmps82
  go_wp2_with fail
  refine HC.out.mono ?_
  rintro e w1 ⟨rfl, hs1⟩
  have HS := Lib.hid hs1
  clear hs1
  go_wp2_with fail
  go_end0
  exact ⟨rfl, HS.out⟩

end Go.Proofs.YtmglbegbijofkaaGreatDoor
namespace Go.Proofs.YtmglbegbijofkaaGreatDoor
open Go.RowKit Go.Shelf Go.Sort

def encP (x : Int × Int) : List Value := [.int .i64 x.1, .int .i64 x.2]
def cfP (x y : Int × Int) : Int := Lib.compareInt x.1 y.1
set_option maxHeartbeats 400000 in
theorem most2_any (x y : Int × Int) (W : World) : Calls Tryz.prog 87 #[.agg #[.int .i64 x.1, .int .i64 x.2], .agg #[.int .i64 y.1, .int .i64 y.2]] W fun e w' => e = .returned (.int .i64 (cfP x y)) ∧ ∃ q os', w' = grow (W.drewN q) os' := by
  have hcon := fun W' => Tryz.cmp_Compare_int x.1 y.1 W'
  unfold cfP
  generalize Lib.compareInt x.1 y.1 = r at hcon ⊢
  have HC := Lib.hid hcon
  clear hcon
  go_enter Tryz.func87, Tryz.ntmps87
  go_wp2_with (go_at_call 84; refine (HC.out _).mono ?_; rintro e w' ⟨rfl, rfl⟩)
  go_ret
  exact ⟨rfl, 0, _, by rw [alloc_eq_grow, alloc_eq_grow, grow_grow]; rfl⟩
theorem ltOf_cfP (x y : Int × Int) : ltOf cfP x y = decide (x.1 < y.1) := by
  unfold ltOf cfP Lib.compareInt
  by_cases h : x.1 < y.1
  · simp [h]
  · by_cases h2 : x.1 > y.1
    · simp [h, h2]
    · simp [h, h2]
theorem swo_cfP : SWO (ltOf cfP) :=
  ⟨fun x => by rw [ltOf_cfP]; simp, fun x y z h1 h2 => by rw [ltOf_cfP] at *; simp at *; omega, fun x y z h1 h2 => by rw [ltOf_cfP] at *; simp at *; omega⟩
theorem sortParts_any (blk off cap : Nat) (d : Array (Int × Int)) (w : World) (hH : HoldsK encP 2 w blk off d) (hblk : blk < w.heap.size) (hsz : d.size < 4611686018427387904) :
    Calls Tryz.prog 86 #[.slice (some ⟨blk, off, none⟩) d.size cap, .func (.func 87) #[] #[]] w fun e w' => e = .returned (.tuple #[]) ∧ ∃ d' n os, PermIn 0 d.size d d' ∧ SortedIn (ltOf cfP) 0 d.size d' ∧ w' = sortWorldK encP 2 w blk off n d' os := by
  have eg : ∀ args w, (callFunc 87 args).run Tryz.prog w = .ok (.enter 87 args) w := enters_of Tryz.func87 (by kernel_rfl) rfl
  have hcon := AnyQ.slices_SortFunc Tryz.sortParts 2 (fun _ => by kernel_rfl) (fun _ => by kernel_rfl) encP (fun _ => rfl) (fun x v hv => by simp [encP] at hv; rcases hv with rfl | rfl <;> rfl) cfP swo_cfP 87 #[] blk off cap d w eg (fun _ _ _ _ x y => most2_any x y _) hH hblk hsz
  exact hcon
end Go.Proofs.YtmglbegbijofkaaGreatDoor
