import Derived.Test.YtmglbegbijofkaaGreatDoorQ16
import Derived.Test.YtmglbegbijofkaaGreatDoorQ17
import Derived.Test.YtmglbegbijofkaaGreatDoorQ01
import Derived.Defers
import Derived.Recover
import Derived.Deep.AppendLies
set_option linter.unusedVariables false
set_option linter.unusedSimpArgs false
namespace Go.Proofs.YtmglbegbijofkaaGreatDoor
open Go.RowKit Go.Maps Go.Sort Go.Shelf

theorem cutSp : CutSp := fun r W h => cut1 r W h

/-- 's[1:]' of a row of strings -/
theorem tailS (b off m c : Nat) (hc : m + 1 ≤ c) : ∃ a, (∀ w : World, (Instr.sliceAt 109 (.slice (some ⟨b, off, none⟩) (m + 1) c) (some (.int .i64 1)) none none).run Tryz.prog w = .ok (.slice a m (c - 1)) w) ∧
    (m = 0 ∨ a = some ⟨b, off + 1, none⟩) := by
  refine ⟨if c = 1 then some ⟨b, off, none⟩ else some ⟨b, off + 1, none⟩, fun w => ?_, ?_⟩
  · by_cases h : c = 1
    · simp [go_sem, h, Tryz.underlying109]; intro hx; omega
    · simp [go_sem, h, Tryz.underlying109]; intro hx; omega
  · by_cases h : c = 1
    · exact .inl (by omega)
    · exact .inr (by simp [h])
/-- a reader in block Br that has these words left -/
def RdAt (W : World) (Br : Nat) (ws : List (List UInt8)) : Prop :=
  ∃ a c, W.cell? ⟨Br, 0, none⟩ = some (.slice a ws.length c) ∧ W.frozen? ⟨Br, 0, none⟩ = false ∧ ws.length ≤ c ∧ (ws = [] ∨ ∃ b off, a = some ⟨b, off, none⟩ ∧ b < Br ∧ ∀ i, i < ws.length → W.cell? ⟨b, off + i, none⟩ = some (encStr (ws[i]?.getD [])))
abbrev errP (k : Int) : List PanicEntry := [{ v := .iface 29 (.int .i64 k), recovered := false }]
set_option maxRecDepth 100000 in
set_option maxHeartbeats 800000 in
theorem word_nil (Br : Nat) (W : World) (h : RdAt W Br []) : Calls Tryz.prog 175 #[.pointer (some ⟨Br, 0, none⟩)] W fun e w' => e = .panicked (errP 6) ∧ W = w' := by
  obtain ⟨a, c, hc, hf, hlc, _⟩ := h
  simp only [List.length_nil] at hc hlc
  go_enter Tryz.func175, Tryz.ntmps175
  go_wp2_with fail
  exact ⟨rfl, rfl, rfl⟩
set_option maxRecDepth 100000 in
set_option maxHeartbeats 800000 in
theorem word_cons (Br : Nat) (x : List UInt8) (ws : List (List UInt8)) (W : World) (h : RdAt W Br (x :: ws)) : Calls Tryz.prog 175 #[.pointer (some ⟨Br, 0, none⟩)] W fun e w' => e = .returned (encStr x) ∧ RdAt w' Br ws ∧ W.grownBy w' (some Br) := by
  obtain ⟨a, c, hc, hf, hlc, h0 | ⟨b, off, rfl, hb, hcells⟩⟩ := h
  · cases h0
  · have hlt : Br < W.heap.size := World.block_lt_of_cell? _ _ hc
    have h1 := hcells 0 (by simp)
    simp only [List.getElem?_cons_zero, Option.getD_some, Nat.add_zero] at h1
    have HCS : Hid (∀ i, i < ws.length → W.cell? ⟨b, off + 1 + i, none⟩ = some (encStr (ws[i]?.getD []))) := show ∀ _ _, _ from fun i hi => by
      have := hcells (i + 1) (by simp; omega)
      simpa [Nat.add_assoc, Nat.add_comm 1 i] using this
    clear hcells
    simp only [List.length_cons] at hc hlc
    obtain ⟨a2, ha2, hor⟩ := tailS b off ws.length c hlc
    have hne : b ≠ Br := by omega
    have HO := Lib.hid hor
    clear hor
    generalize hm : ws.length = m at *
    have HM := Lib.hid hm
    clear hm
    unfold encStr at h1
    go_enter Tryz.func175, Tryz.ntmps175
    go_wp2_with fail
    go_ret
    refine ⟨rfl, ⟨a2, c - 1, ?_, ?_, ?_, ?_⟩, grownBy_setCell0_a _ _ _⟩
    · rw [HM.out]; exact World.cell?_setCell_same' _ _ _ (by rw [hc]; rfl)
    · rw [World.frozen?_setCell]; exact hf
    · rw [HM.out]; omega
    · rcases HO.out with h0 | rfl
      · exact .inl (List.eq_nil_of_length_eq_zero (HM.out.trans h0))
      · refine .inr ⟨b, off + 1, rfl, hb, fun i hi => ?_⟩
        exact (grownBy_setCell0_a _ _ _).cell (HCS.out i (by rw [← HM.out]; exact hi)) (fun e => hne (by injection e))

set_option maxRecDepth 100000 in
set_option maxHeartbeats 800000 in
theorem must_ok (Br : Nat) (x : List UInt8) (ws : List (List UInt8)) (W : World) (h : RdAt W Br (x :: ws)) : Calls Tryz.prog 138 #[.pointer (some ⟨Br, 0, none⟩), encStr x] W fun e w' => e = .returned (.tuple #[]) ∧ RdAt w' Br ws ∧ W.grownBy w' (some Br) := by
  have HC := Lib.hid (word_cons Br x ws W h)
  clear h
  unfold encStr at *
  go_enter Tryz.func138, Tryz.ntmps138
  go_wp2_with fail
  refine HC.out.mono ?_
  rintro e w1 ⟨rfl, hr, hg⟩
  go_wp2_with fail
  go_end0
  exact ⟨rfl, hr, hg⟩
set_option maxRecDepth 100000 in
set_option maxHeartbeats 800000 in
theorem must_bad (Br : Nat) (x y : List UInt8) (ws : List (List UInt8)) (W : World) (h : RdAt W Br (x :: ws)) (hxy : ¬ x = y) : Calls Tryz.prog 138 #[.pointer (some ⟨Br, 0, none⟩), encStr y] W fun e w' => e = .panicked (errP 6) ∧ W.grownBy w' (some Br) := by
  have HC := Lib.hid (word_cons Br x ws W h)
  clear h
  unfold encStr at *
  have hd : (!x == y) = true := by simpa using hxy
  go_enter Tryz.func138, Tryz.ntmps138
  go_wp2_with fail
  refine HC.out.mono ?_
  rintro e w1 ⟨rfl, hr, hg⟩
  go_wp2_with fail
  exact ⟨rfl, rfl, hg⟩
set_option maxRecDepth 100000 in
set_option maxHeartbeats 800000 in
theorem must_nil (Br : Nat) (y : List UInt8) (W : World) (h : RdAt W Br []) : Calls Tryz.prog 138 #[.pointer (some ⟨Br, 0, none⟩), encStr y] W fun e w' => e = .panicked (errP 6) ∧ W.grownBy w' (some Br) := by
  have HC := Lib.hid (word_nil Br W h)
  clear h
  unfold encStr at *
  go_enter Tryz.func138, Tryz.ntmps138
  go_wp2_with fail
  refine HC.out.mono ?_
  rintro e w1 ⟨rfl, rfl⟩
  go_wp2_with fail
  exact ⟨rfl, rfl, World.grownBy.refl _ _⟩
theorem RdAt.below {W W' : World} {Br : Nat} {ws : List (List UInt8)} (h : RdAt W Br ws) (hb : Below W.heap.size W W') : RdAt W' Br ws := by
  obtain ⟨a, c, hc, hf, hlc, hor⟩ := h
  have hlt : Br < W.heap.size := World.block_lt_of_cell? _ _ hc
  refine ⟨a, c, (hb.cell (p := ⟨Br, 0, none⟩) hlt).trans hc, (hb.frozen (p := ⟨Br, 0, none⟩) hlt).trans hf, hlc, ?_⟩
  rcases hor with h0 | ⟨b, off, ha, hbb, hcells⟩
  · exact .inl h0
  · exact .inr ⟨b, off, ha, hbb, fun i hi => (hb.cell (p := ⟨b, off + i, none⟩) (by show b < _; omega)).trans (hcells i hi)⟩
theorem grown_of_below {W W1 W2 : World} {Br : Nat} (hb : Below W.heap.size W W1) (hg : W1.grownBy W2 (some Br)) : W.grownBy W2 (some Br) :=
  ⟨hg.os.trans hb.os, hg.tape.trans hb.tape, hg.output.trans hb.output, Nat.le_trans hb.size hg.size, fun k hk hn => (hg.block k (Nat.lt_of_lt_of_le hk hb.size) hn).trans (hb.block k hk)⟩

set_option maxRecDepth 100000 in
set_option maxHeartbeats 800000 in
/-- a lone word that is not NOTICE is no notice -/
theorem notice_one (Br : Nat) (x : List UInt8) (W : World) (h : RdAt W Br [x]) (hx : ¬ x = [78, 79, 84, 73, 67, 69]) : Calls Tryz.prog 76 #[.pointer (some ⟨Br, 0, none⟩)] W fun e w' => e = .panicked (errP 6) ∧ W.grownBy w' (some Br) := by
  have h2 := h
  obtain ⟨a, c, hc, hf, hlc, _⟩ := h2
  have hlt : Br < W.heap.size := World.block_lt_of_cell? _ _ hc
  simp only [List.length_cons, List.length_nil] at hc
  have HR := Lib.hid h
  have HX := Lib.hid hx
  clear h hx
  go_enter Tryz.func76, Tryz.ntmps76
  go_wp2_with fail
  refine (must_bad Br x [78, 79, 84, 73, 67, 69] [] _ (HR.out.below (by repeat (first | exact Below.refl _ _ | assumption | refine balloc ?_ _ | refine below_trans ?_ (by assumption) | refine Below.drew ?_ | refine below_drewN ?_ _ | refine Below.setCell ?_ (by simp <;> omega) _))) HX.out).mono ?_
  rintro e w1 ⟨rfl, hg⟩
  go_wp2_with fail
  exact ⟨rfl, rfl, grown_of_below (by repeat (first | exact Below.refl _ _ | assumption | refine balloc ?_ _ | refine below_trans ?_ (by assumption) | refine Below.drew ?_ | refine below_drewN ?_ _ | refine Below.setCell ?_ (by simp <;> omega) _)) hg⟩
end Go.Proofs.YtmglbegbijofkaaGreatDoor
