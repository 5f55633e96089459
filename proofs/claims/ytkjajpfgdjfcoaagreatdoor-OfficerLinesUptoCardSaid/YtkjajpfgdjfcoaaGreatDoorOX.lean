/- The frame of the officer's laws: a world for the witnesses; the program's tables out of a row's list. -/
import Derived.Test.YtkjajpfgdjfcoaaGreatDoorCards
import Derived.ProofKit
import Derived.OpenShut
import Derived.Deep.DeepHandedRow
import Derived.Deep.DeepWitnessRowRef
import Derived.Lib.LaidTab
import Derived.Lib.LaidU8
import Derived.Lib.ItoaNum
import Derived.LaidSub
import Derived.SevenTiedAt
import Derived.Test.YtkjajpfgdjfcoaaGreatDoorEh
import Derived.Test.YtkjajpfgdjfcoaaGreatDoorOC
set_option linter.unusedVariables false
set_option linter.unusedSimpArgs false
namespace Go.Proofs.YtkjajpfgdjfcoaaGreatDoor
open Go Go.ChangeShapes Go.WideShapes Go.ChangeAt Go.RowKit

theorem own : ownKnob Tryz.prog.godebug = none := by kernel_rfl
theorem gPow : Tryz.prog.globalNamed "internal/strconv.uint64pow10" = some 3 := by kernel_rfl
theorem gLast : Tryz.prog.globalNamed "math/bits.deBruijn64tab" = some 9 := by kernel_rfl
theorem gPowType : (Tryz.prog.globals[3]?).map (·.type) = some 486 := by kernel_rfl
theorem gLastType : (Tryz.prog.globals[9]?).map (·.type) = some 626 := by kernel_rfl
theorem cellsPow : Tryz.prog.cellsOf 486 = 20 := by kernel_rfl
theorem cellsLast : Tryz.prog.cellsOf 626 = 64 := by kernel_rfl
/-- a world for the witnesses: the settled one with the errors' structs, the listed variables holding what their initialisers lay -/
noncomputable def laidWorld (os : Os) : World :=
  let N := (World.settled Tryz.prog os).heap.size
  let w0 := World.holding Tryz.prog os ⟨#[.cells #[.string ⟨#[105, 110, 118, 97, 108, 105, 100, 32, 115, 121, 110, 116, 97, 120]⟩] 571, .cells #[.string ⟨#[118, 97, 108, 117, 101, 32, 111, 117, 116, 32, 111, 102, 32, 114, 97, 110, 103, 101]⟩] 571, .cells #[.string ⟨#[116, 111, 111, 32, 102, 97, 114]⟩] 571, .cells #[.string ⟨#[105, 116, 32, 100, 111, 101, 115, 32, 110, 111, 116, 32, 99, 111, 109, 101, 32, 100, 111, 119, 110]⟩] 571], #[], []⟩
  let put (h : Array Obj) (g : Nat) (cs : Array Value) : Array Obj := h.modify g fun
    | .cells _ t frozen => .cells cs t frozen
    | o => o
  let h0 := put (put (put (put w0.heap 1 #[.iface 569 (.pointer (some ⟨N + 0, 0, none⟩))]) 2 #[.iface 569 (.pointer (some ⟨N + 1, 0, none⟩))]) 6 #[.iface 569 (.pointer (some ⟨N + 2, 0, none⟩))]) 7 #[.iface 569 (.pointer (some ⟨N + 3, 0, none⟩))]
  let h1 := put h0 4 (Lib.firstTab.map fun z => Value.int .u8 z).toArray
  let h2 := put h1 5 ((List.range 16).flatMap fun i => [Value.int .u8 (Lib.accLo i), Value.int .u8 (Lib.accHi i)]).toArray
  let h3 := put h2 3 (Lib.pow10Tab.map fun z => Value.int .u64 z).toArray
  let h4 := put h3 8 (([0, 1, 28, 2, 29, 14, 24, 3, 30, 22, 20, 15, 25, 17, 4, 8, 31, 27, 13, 23, 21, 19, 16, 7, 26, 12, 18, 6, 11, 5, 10, 9] : List Int).map fun z => Value.int .u8 z).toArray
  let h5 := put h4 9 (([0, 1, 56, 2, 57, 49, 28, 3, 61, 58, 42, 50, 38, 29, 17, 4, 62, 47, 59, 36, 45, 43, 51, 22, 53, 39, 33, 30, 24, 18, 12, 5, 63, 55, 48, 27, 60, 41, 37, 16, 46, 35, 44, 21, 52, 32, 23, 11, 54, 26, 40, 15, 34, 20, 31, 10, 25, 14, 19, 9, 13, 8, 7, 6] : List Int).map fun z => Value.int .u8 z).toArray
  { w0 with heap := h5 }
noncomputable def tab : List Ev.AV := (Lib.pow10Tab.map fun z => Value.int .u64 z).map Ev.mkVal
noncomputable def tabs : List (Nat × List Ev.AV) := [(3, tab)]
theorem tabs_intro {W : World} (h1 : Lib.TabIs Tryz.prog W "internal/strconv.uint64pow10" .u64 Lib.pow10Tab) {k : IntKind} {zs : List Int} (h2 : Lib.TabIs Tryz.prog W "math/bits.deBruijn64tab" k zs) : Ev.Tabs Tryz.prog tabs W := by
  unfold Lib.TabIs World.var? at h1 h2
  rw [gPow] at h1
  rw [gLast] at h2
  simp only [Option.bind_some] at h1 h2
  refine ⟨?_, ?_⟩
  · split at h2
    · rename_i cs t fr hc
      rw [globs]
      rcases Nat.lt_or_ge 9 W.heap.size with h | h
      · exact h
      · rw [Array.getElem?_eq_none h] at hc; cases hc
    · cases h2
  · intro p hp
    obtain rfl : p = (3, tab) := by simpa [tabs] using hp
    refine ⟨by rw [globs]; decide, ?_⟩
    split at h1
    · rename_i cs t fr hc
      injection h1 with h1
      refine ⟨_, t, fr, by rw [hc, h1], fun ρ => Ev.VRs.mkVal ρ _⟩
    · cases h1
section
variable {H : Type} {enc : TypeId × Value → H} {P : Program}
theorem post_of_below {f : Func} {s : ChangeSpec} {apart fresh handsOn again : Bool} {W W' : World} {args : Array Value} {v : Value} {ds gs : List (DataW H)} {before pa pv : List MemPlace}
    (hW : DataW.Whole enc P f.params.toList s.vars apart W args.toList ds gs before)
    (hres : ∀ (b : Nat) (sp : Nat → Bool) (hd : Bool), DataW.TrodAll enc P W' b sp hd f.resultTypes.toList (v.resultList f.resultTypes.size) (s.fn H (ds ++ gs)).results [])
    (hargs : ∀ sp : Nat → Bool, (∀ p ∈ before, sp p.block = true) → DataW.TrodAll enc P W' 0 sp true f.params.toList args.toList (s.fn H (ds ++ gs)).args pa)
    (hvars : ∀ sp : Nat → Bool, (∀ p ∈ before, sp p.block = true) → DataW.TrodVars enc P W' sp s.vars (s.fn H (ds ++ gs)).vars pv)
    (hps : before = pa ++ pv) (hb : Below W.heap.size W W')
    (hok : ∀ (j : Nat) (t : TypeId) (r : Value), f.resultTypes[j]? = some t → (v.resultList f.resultTypes.size)[j]? = some r → Value.okWide P W' .any 0 t r) :
    s.post enc P f apart fresh handsOn again W args v W' := by
  have hlt : ∀ p ∈ before, p.block < W.heap.size := fun p hp => hW.lt p hp
  have hold : ∀ p ∈ before, (fun b => decide (b < W.heap.size)) p.block = true := fun p hp => by simpa using hlt p hp
  refine ⟨ds, gs, before, [], pa, pv, hW, hres _ _ _, hargs _ hold, hvars _ hold, World.keptBut_mono (fun p hp => ⟨hp, ?_⟩) (hb.frame (· ∈ before)), fun _ => ?_⟩
  · rw [hps, List.mem_append] at hp
    exact Or.inr hp
  · obtain ⟨_, _, _, _, _, hz, hn⟩ := hW
    refine ⟨hok, _, _, ([] ++ pa) ++ pv, ⟨[] ++ pa, pv, trodAll_append (hargs _ (fun _ _ => rfl)) (hres _ _ _), hvars _ (fun _ _ => rfl), rfl, ?_, ?_⟩, ?_⟩
    · intro b off hp
      have hin : MemPlace.cell b off ∈ before := by rw [hps]; simpa using hp
      rw [hb.frozen (hlt _ hin)]
      exact hz b off hin
    · intro ha
      have := hn ha
      rw [hps] at this
      simpa using this
    · intro p hp _
      rw [hps]
      simpa using hp
end

set_option maxRecDepth 100000 in
theorem tabs_officerKnown {W : World} (h : laidMetH Tryz.prog Rows.officerKnownRow.laid W) : Ev.Tabs Tryz.prog tabs W := by
  have h1 := h.filter (fun p => p.1 == "internal/strconv.uint64pow10")
  have h2 : laidMetH Tryz.prog [("internal/strconv.uint64pow10", Rows.laid_internal_strconv_uint64pow10)] W := h1
  have h3 := h.filter (fun p => p.1 == "math/bits.deBruijn64tab")
  have h4 : laidMetH Tryz.prog [("math/bits.deBruijn64tab", Rows.laid_math_bits_deBruijn64tab)] W := h3
  exact tabs_intro (Lib.tabIs_of_head (rest := []) gPow gPowType Tryz.underlying486 Tryz.underlying319 (by kernel_rfl) cellsPow h2)
    (Lib.tabIs_of_head (k := .u8) (zs := [0, 1, 56, 2, 57, 49, 28, 3, 61, 58, 42, 50, 38, 29, 17, 4, 62, 47, 59, 36, 45, 43, 51, 22, 53, 39, 33, 30, 24, 18, 12, 5, 63, 55, 48, 27, 60, 41, 37, 16, 46, 35, 44, 21, 52, 32, 23, 11, 54, 26, 40, 15, 34, 20, 31, 10, 25, 14, 19, 9, 13, 8, 7, 6]) (rest := []) gLast gLastType Tryz.underlying626 Tryz.underlying5 (by kernel_rfl) cellsLast h4)
theorem laid_officerKnown (os : Os) (args : Array Value) : laidMet Tryz.prog Rows.officerKnownRow.laid ((laidWorld os).forCall (fun _ _ => 0) ⟨#[], args, []⟩).memory :=
  laidMet_of_run' 8 (by kernel_rfl) (by kernel_rfl)

set_option maxRecDepth 100000 in
theorem tabs_officerParses {W : World} (h : laidMetH Tryz.prog Rows.officerParsesRow.laid W) : Ev.Tabs Tryz.prog tabs W := by
  have h1 := h.filter (fun p => p.1 == "internal/strconv.uint64pow10")
  have h2 : laidMetH Tryz.prog [("internal/strconv.uint64pow10", Rows.laid_internal_strconv_uint64pow10)] W := h1
  have h3 := h.filter (fun p => p.1 == "math/bits.deBruijn64tab")
  have h4 : laidMetH Tryz.prog [("math/bits.deBruijn64tab", Rows.laid_math_bits_deBruijn64tab)] W := h3
  exact tabs_intro (Lib.tabIs_of_head (rest := []) gPow gPowType Tryz.underlying486 Tryz.underlying319 (by kernel_rfl) cellsPow h2)
    (Lib.tabIs_of_head (k := .u8) (zs := [0, 1, 56, 2, 57, 49, 28, 3, 61, 58, 42, 50, 38, 29, 17, 4, 62, 47, 59, 36, 45, 43, 51, 22, 53, 39, 33, 30, 24, 18, 12, 5, 63, 55, 48, 27, 60, 41, 37, 16, 46, 35, 44, 21, 52, 32, 23, 11, 54, 26, 40, 15, 34, 20, 31, 10, 25, 14, 19, 9, 13, 8, 7, 6]) (rest := []) gLast gLastType Tryz.underlying626 Tryz.underlying5 (by kernel_rfl) cellsLast h4)
theorem laid_officerParses (os : Os) (args : Array Value) : laidMet Tryz.prog Rows.officerParsesRow.laid ((laidWorld os).forCall (fun _ _ => 0) ⟨#[], args, []⟩).memory :=
  laidMet_of_run' 8 (by kernel_rfl) (by kernel_rfl)

set_option maxRecDepth 100000 in
theorem tabs_officerLines {W : World} (h : laidMetH Tryz.prog Rows.officerLinesRow.laid W) : Ev.Tabs Tryz.prog tabs W := by
  have h1 := h.filter (fun p => p.1 == "internal/strconv.uint64pow10")
  have h2 : laidMetH Tryz.prog [("internal/strconv.uint64pow10", Rows.laid_internal_strconv_uint64pow10)] W := h1
  have h3 := h.filter (fun p => p.1 == "math/bits.deBruijn64tab")
  have h4 : laidMetH Tryz.prog [("math/bits.deBruijn64tab", Rows.laid_math_bits_deBruijn64tab)] W := h3
  exact tabs_intro (Lib.tabIs_of_head (rest := []) gPow gPowType Tryz.underlying486 Tryz.underlying319 (by kernel_rfl) cellsPow h2)
    (Lib.tabIs_of_head (k := .u8) (zs := [0, 1, 56, 2, 57, 49, 28, 3, 61, 58, 42, 50, 38, 29, 17, 4, 62, 47, 59, 36, 45, 43, 51, 22, 53, 39, 33, 30, 24, 18, 12, 5, 63, 55, 48, 27, 60, 41, 37, 16, 46, 35, 44, 21, 52, 32, 23, 11, 54, 26, 40, 15, 34, 20, 31, 10, 25, 14, 19, 9, 13, 8, 7, 6]) (rest := []) gLast gLastType Tryz.underlying626 Tryz.underlying5 (by kernel_rfl) cellsLast h4)
theorem laid_officerLines (os : Os) (args : Array Value) : laidMet Tryz.prog Rows.officerLinesRow.laid ((laidWorld os).forCall (fun _ _ => 0) ⟨#[], args, []⟩).memory :=
  laidMet_of_run' 8 (by kernel_rfl) (by kernel_rfl)
end Go.Proofs.YtkjajpfgdjfcoaaGreatDoor
