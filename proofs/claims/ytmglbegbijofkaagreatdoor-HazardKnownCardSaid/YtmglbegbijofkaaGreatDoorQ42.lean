import Derived.Test.YtmglbegbijofkaaGreatDoorQ36
import Derived.Test.YtmglbegbijofkaaGreatDoorQ41
import Derived.Test.YtmglbegbijofkaaGreatDoorQ06
set_option linter.unusedVariables false
set_option linter.unusedSimpArgs false
/- ref.over, ref.covers. -/
namespace Go.Proofs.YtmglbegbijofkaaGreatDoor
open Go.RowKit
end Go.Proofs.YtmglbegbijofkaaGreatDoor
/- ref.Covers, ref.Force. -/
namespace Go.Proofs.YtmglbegbijofkaaGreatDoor
open Go.RowKit Go.Maps Go.Shelf
def FcPost (w : World) (ss : List (List UInt8)) (t : Int) (e : Ending) (w' : World) : Prop := ∃ v', e = .returned (.tuple #[v', .int .i64 (fcE ss t)]) ∧ NtsAt w' v' (fcL ss t) ∧ Below w.heap.size w w'
end Go.Proofs.YtmglbegbijofkaaGreatDoor
/- hazard.Force with its closure; ref.SameNotices of equal lists. -/
namespace Go.Proofs.YtmglbegbijofkaaGreatDoor
open Go.RowKit Go.Maps Go.Shelf
set_option maxRecDepth 100000 in
set_option maxHeartbeats 800000 in
theorem tick127 (t : Int) (n : NT) (tb : Nat) (w : World) (ht : w.cell? ⟨tb, 0, none⟩ = some (.int .i64 t)) :
    Calls Tryz.prog 127 #[.agg #[.int .i64 n.n, .bool n.c, .int .i64 n.f, .int .i64 n.u, .int .i64 n.xl, .int .i64 n.xh, .int .i64 n.yl, .int .i64 n.yh], .pointer (some ⟨tb, 0, none⟩)] w fun e w' => e = .returned (.bool (tickB t n)) ∧ Below w.heap.size w w' := by
  have hol := World.block_lt_of_cell? _ _ ht
  have HE : Hid (tickB t n = !outB t n.f n.u) := show _ = _ from by
    unfold tickB outB
    rw [Bool.eq_iff_iff]
    simp
  obtain ⟨nn, nc, nf, nu, nxl, nxh, nyl, nyh⟩ := n
  simp only at HE
  have hN := cellsNew w #[.int .i64 nn, .bool nc, .int .i64 nf, .int .i64 nu, .int .i64 nxl, .int .i64 nxh, .int .i64 nyl, .int .i64 nyh] 33
  have hb0 : Below w.heap.size w (w.alloc (.cells #[.int .i64 nn, .bool nc, .int .i64 nf, .int .i64 nu, .int .i64 nxl, .int .i64 nxh, .int .i64 nyl, .int .i64 nyh] 33)) := balloc (Below.refl _ _) _
  have hT := below_cell hb0 ht
  obtain ⟨y0, y1, y2, y3, y4, y5, y6, y7⟩ := cells8 hN
  have HO := Lib.hid (fun W => out_any t nf nu W)
  generalize outB t nf nu = ob at *
  go_enter Tryz.func127, Tryz.ntmps127
  go_wp2_with (go_at_call 64; refine (HO.out _).mono ?_; rintro e w' ⟨rfl, rfl⟩)
  go_ret
  exact ⟨ret_bool (by rw [HE.out]), hb0⟩
set_option maxRecDepth 100000 in
set_option maxHeartbeats 2000000 in
theorem hForce_any (ss : List (List UInt8)) (v : Value) (t : Int) (w : World) (hv : StrsAt w v ss) (hs : ∀ s ∈ ss, s.length ≤ 8796093022000) (hl : ss.length ≤ 9223372036854775806) :
    Calls Tryz.prog 54 #[v, .int .i64 t] w (FcPost w ss t) := by
  have HV := Lib.hid hv
  have HF := Lib.hid (fun W (h : StrsAt W v ss) => hforce_any ss v W h hs hl)
  clear hv hs hl
  have HO := Lib.hid (fun W => out_any t 0 100000 W)
  have HEND : Hid (∀ v' k w', fcE ss t = k → NtsAt w' v' (if k = 0 then (forceL ss).filter (tickB t) else []) → Below w.heap.size w w' → FcPost w ss t (.returned (.tuple #[v', .int .i64 k])) w') := show ∀ _ _ _, _ → _ → _ → _ from fun v' k w' h1 h2 h3 => by
    refine ⟨v', by rw [h1], ?_, h3⟩
    unfold fcL
    rw [h1]
    exact h2
  have HCE : Hid (fcE ss t = if forceE ss ≠ 0 then forceE ss else if outB t 0 100000 then 7 else 0) := show _ = _ from rfl
  have HCC := Lib.hid (fun (tb b nn : Nat) (D : DataW Unit) (W : World) (h1 : W.cell? ⟨tb, 0, none⟩ = some (.int .i64 t)) h3 h4 => callsIn_wide.1 (chosen_tick (tickB t) tb b nn D W (fun y W2 hb => tick127 t y.1 tb W2 (below_cell hb h1)) h3 h4))
  have HCL : Hid (∀ (D : DataW Unit) (qs : List NT) (ps : List (Int × NTo)), NtRel D (forceL ss) → AllOfN D (ps.map pairN) → qs.Perm (chP (tickB t) (ps.map (·.2))) → (qs.Pairwise fun x y => x.n ≤ y.n) → qs = (forceL ss).filter (tickB t)) := show ∀ _ _ _, _ → _ → _ → _ → _ from fun D qs ps h1 h2 h3 h4 => chosen_list h1 h2 h3 h4
  generalize fcE ss t = CE at *
  generalize (forceL ss).filter (tickB t) = CL at *
  unfold FPost at HF
  generalize forceE ss = FE at *
  generalize outB t 0 100000 = ob at *
  go_enter Tryz.func54, Tryz.ntmps54
  go_wp2_with fail
  have hX := cellsNew w #[.int .i64 t] 3
  have hB : Below w.heap.size w (w.alloc (.cells #[.int .i64 t] 3)) := balloc (Below.refl _ _) _
  generalize w.alloc (.cells #[.int .i64 t] 3) = W1 at *
  refine (HF.out W1 (HV.out.below hB)).mono ?_
  rintro e w2 (⟨hfe, rfl, hb2⟩ | ⟨rfl, b, D, nn, rfl, hbb, hown, hnn, hR, hb2⟩)
  · have hfe' : (FE != 0) = true := by simpa using hfe
    have HC2 : Hid (CE = FE) := show _ = _ from by rw [HCE.out, if_pos hfe]
    have HN := Lib.hid hfe
    clear hfe
    go_wp2_with fail
    go_ret2
    exact HEND.out _ FE _ HC2.out (by rw [if_neg HN.out]; exact nts_nil _ _ _ rfl) (below_trans hB hb2)
  · have hX2 := hX.below hb2
    have hB2 := below_trans hB hb2
    have HOWN := Lib.hid hown
    have HRR := Lib.hid hR
    clear hown hR
    have z0 := hX2.cell 0
    cases ob with
    | true =>
      have HC2 : Hid (CE = 7) := show _ = _ from by rw [HCE.out]; simp
      go_wp2_with (go_at_call 64; refine (HO.out _).mono ?_; rintro e w' ⟨rfl, rfl⟩)
      go_ret2
      exact HEND.out _ 7 _ HC2.out (nts_nil _ _ _ rfl) hB2
    | false =>
      have HC2 : Hid (CE = 0) := show _ = _ from by rw [HCE.out]; simp
      have HCC2 := Lib.hid (HCC.out w.heap.size b nn D w2 z0 HOWN.out (Nat.le_trans HOWN.out.size_le (by omega)))
      go_wp2_with (first | (go_at_call 64; refine (HO.out _).mono ?_; rintro e w' ⟨rfl, rfl⟩) | fail)
      refine HCC2.out.mono ?_
      rintro e w5 ⟨v5, ps, qs, rfl, ha, hp, hs5, hr5, hb5⟩
      obtain rfl : qs = CL := HCL.out D qs ps HRR.out ha hp hs5
      go_wp2_with fail
      go_ret2
      exact HEND.out _ 0 _ HC2.out (by rw [if_pos rfl]; exact hr5) (below_trans hB2 hb5)
end Go.Proofs.YtmglbegbijofkaaGreatDoor
