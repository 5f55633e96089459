/- SortFunc of notices by their numbers. -/
import Derived.Test.YtmglbegbijofkaaGreatDoorW20
import Derived.Test.YtmglbegbijofkaaGreatDoorW49
set_option linter.unusedVariables false
set_option linter.unusedSimpArgs false
namespace Go.Proofs.YtmglbegbijofkaaGreatDoor
open Go.RowKit Go.Shelf Go.Sort
instance : Inhabited NT := ⟨zeroNT⟩
def encN (x : NT) : List Value := [.int .i64 x.n, .bool x.c, .int .i64 x.f, .int .i64 x.u, .int .i64 x.xl, .int .i64 x.xh, .int .i64 x.yl, .int .i64 x.yh]
def cfN (x y : NT) : Int := Lib.compareInt x.n y.n
set_option maxHeartbeats 400000 in
theorem chosen1_any (x y : NT) (W : World) : Calls Tryz.prog 165 #[.agg (encN x).toArray, .agg (encN y).toArray] W fun e w' => e = .returned (.int .i64 (cfN x y)) ∧ ∃ q os', w' = grow (W.drewN q) os' := by
  have hcon := fun W' => Tryz.cmp_Compare_int x.n y.n W'
  unfold cfN encN
  generalize Lib.compareInt x.n y.n = r at hcon ⊢
  have HC := Lib.hid hcon
  clear hcon
  go_enter Tryz.func165, Tryz.ntmps165
  go_wp2_with (go_at_call 84; refine (HC.out _).mono ?_; rintro e w' ⟨rfl, rfl⟩)
  go_ret
  exact ⟨rfl, 0, _, by rw [alloc_eq_grow, alloc_eq_grow, grow_grow]; rfl⟩
theorem ltOf_cfN (x y : NT) : ltOf cfN x y = decide (x.n < y.n) := by
  unfold ltOf cfN Lib.compareInt
  by_cases h : x.n < y.n
  · simp [h]
  · by_cases h2 : x.n > y.n
    · simp [h, h2]
    · simp [h, h2]
theorem swo_cfN : SWO (ltOf cfN) :=
  ⟨fun x => by rw [ltOf_cfN]; simp, fun x y z h1 h2 => by rw [ltOf_cfN] at *; simp at *; omega, fun x y z h1 h2 => by rw [ltOf_cfN] at *; simp at *; omega⟩
theorem sortNotices_any (blk off cap : Nat) (d : Array NT) (w : World) (hH : HoldsK encN 8 w blk off d) (hblk : blk < w.heap.size) (hsz : d.size < 4611686018427387904) :
    Calls Tryz.prog 164 #[.slice (some ⟨blk, off, none⟩) d.size cap, .func (.func 165) #[] #[]] w fun e w' => e = .returned (.tuple #[]) ∧ ∃ d' n os, PermIn 0 d.size d d' ∧ SortedIn (ltOf cfN) 0 d.size d' ∧ w' = sortWorldK encN 8 w blk off n d' os := by
  have eg : ∀ args w, (callFunc 165 args).run Tryz.prog w = .ok (.enter 165 args) w := enters_of Tryz.func165 (by kernel_rfl) rfl
  have hcon := AnyQ.slices_SortFunc Tryz.sortNotices 8 (fun _ => by kernel_rfl) (fun _ => by kernel_rfl) encN (fun _ => rfl) (fun x v hv => by simp [encN] at hv; rcases hv with rfl | rfl | rfl | rfl | rfl | rfl | rfl | rfl <;> rfl) cfN swo_cfN 165 #[] blk off cap d w eg (fun _ _ _ _ x y => chosen1_any x y _) hH hblk hsz
  exact hcon
/-- the cells of a row of notices -/
def ntF (ss : List NT) (i : Nat) : Value := (encN (ss[i / 8]?.getD zeroNT))[i % 8]?.getD undef
abbrev NtsAt (w : World) (v : Value) (ss : List NT) : Prop := RowAt w v ss.length 8 (ntF ss)
theorem sortNotices_list (g cap : Nat) (ps : List NT) (w : World) (hg : g < w.heap.size) (hf : ∀ i, i < ps.length * 8 → w.frozen? ⟨g, i, none⟩ = false) (hc : ∀ i, i < ps.length * 8 → w.cell? ⟨g, i, none⟩ = some (ntF ps i)) (hsz : ps.length < 4611686018427387904) :
    Calls Tryz.prog 164 #[.slice (some ⟨g, 0, none⟩) ps.length cap, .func (.func 165) #[] #[]] w fun e w' => e = .returned (.tuple #[]) ∧ w.grownBy w' (some g) ∧ ∃ qs : List NT, qs.Perm ps ∧ qs.Pairwise (fun x y => x.n ≤ y.n) ∧ ∀ i, i < ps.length * 8 → w'.cell? ⟨g, i, none⟩ = some (ntF qs i) := by
  have hsp : ∀ (qs : List NT) i, i < qs.length * 8 → (flatK encN 8 qs.toArray)[i]! = ntF qs i := fun qs i hi => by
    rw [get_flatK _ _ _ _ (by simpa using hi)]
    have h2 : i / 8 < qs.length := by omega
    have h3 : i % 8 < 8 := Nat.mod_lt _ (by omega)
    unfold ntF
    have h4 : (encN qs[i / 8]).length = 8 := rfl
    simp [h2, h4, h3]
  have hH : HoldsK encN 8 w g 0 ps.toArray := fun j hj => by
    have hj' : j < ps.length * 8 := by simpa using hj
    rw [Nat.zero_add, hsp ps j hj']
    exact ⟨hc j hj', hf j hj'⟩
  have hcon := sortNotices_any g 0 cap ps.toArray w hH hg (by simpa using hsz)
  simp only [List.size_toArray] at hcon
  refine hcon.mono fun e w' ⟨he, d', n, os, hp, hs, hw⟩ => ⟨he, ?_, d'.toList, ?_, ?_, ?_⟩
  · rw [hw]; exact sw_grown id w g 0 n (flatK encN 8 d') os
  · have := hp.2.2
    simpa [Array.extract_eq_self_of_le, hp.1] using this
  · rw [List.pairwise_iff_getElem]
    intro i j hi hj hij
    have hz : d'.size = ps.length := by simpa using hp.1
    have h1 := hs i j (Nat.zero_le _) hij (by simpa [hz] using hj)
    rw [ltOf_cfN] at h1
    simp only [decide_eq_false_iff_not] at h1
    rw [getElem!_pos _ i (by simpa using hi), getElem!_pos _ j (by simpa using hj)] at h1
    simpa using h1
  · intro i hi
    have hz : d'.size = ps.length := by simpa using hp.1
    have hHs : HoldsK encN 8 w' g 0 d' := by rw [hw]; exact holds_sortWorld id w g 0 n _ _ os hg hH (by simp [hz])
    have h1 := (hHs i (by simpa [hz] using hi)).1
    rw [Nat.zero_add] at h1
    rw [h1]
    have := hsp d'.toList i (by simpa [hz] using hi)
    simpa using this
end Go.Proofs.YtmglbegbijofkaaGreatDoor
