import Derived.Test.YtmglbegbijofkaaGreatDoorQ34
import Derived.Test.YtmglbegbijofkaaGreatDoorQ35
import Derived.Laws.EntriesVeiled
set_option linter.unusedVariables false
set_option linter.unusedSimpArgs false
/- hazard.Covers. -/
namespace Go.Proofs.YtmglbegbijofkaaGreatDoor
open Go.RowKit Go.Maps Go.Shelf
def covE (ss : List (List UInt8)) (x : Impact) : Int := if forceE ss ≠ 0 then forceE ss else if strangeI x then 7 else 0
def headN (l : List NT) : Int := match l with | [] => 0 | y :: _ => y.n
def covN (ss : List (List UInt8)) (x : Impact) : Int := if covE ss x = 0 then headN ((forceL ss).filter (covB x)) else 0
theorem chosen_list {D : DataW Unit} {L qs : List NT} {p : NT → Bool} {ps : List (Int × NTo)} (hR : NtRel D L) (ha : AllOfN D (ps.map pairN)) (hp : qs.Perm (chP p (ps.map (·.2)))) (hs : qs.Pairwise fun x y => x.n ≤ y.n) : qs = L.filter p := by
  have h1 := hR.all ha
  have h2 : (ps.map pairN).map (·.2) = (ps.map (·.2)).map (·.1) := by rw [List.map_map, List.map_map]; rfl
  rw [h2] at h1
  exact sorted_same (hR.asc.filter _) (hp.trans (h1.filter _)) hs
set_option maxRecDepth 100000 in
set_option maxHeartbeats 2000000 in
theorem hcovers_any (ss : List (List UInt8)) (v : Value) (x : Impact) (w : World) (hv : StrsAt w v ss) (hs : ∀ s ∈ ss, s.length ≤ 8796093022000) (hl : ss.length ≤ 9223372036854775806) :
    Calls Tryz.prog 49 #[v, .agg #[.int .i64 x.p, .int .i64 x.xl, .int .i64 x.xh, .int .i64 x.yl, .int .i64 x.yh, .int .i64 x.tl, .int .i64 x.th]] w fun e w' => e = .returned (.tuple #[.int .i64 (covN ss x), .int .i64 (covE ss x)]) ∧ Below w.heap.size w w' := by
  have HV := Lib.hid hv
  have HF := Lib.hid (fun W (h : StrsAt W v ss) => hforce_any ss v W h hs hl)
  clear hv hs hl
  have HST := Lib.hid (fun W => strange_any x.p x.xl x.xh x.yl x.yh x.tl x.th W)
  have HEND : Hid (∀ n k w', covE ss x = k → (k = 0 → headN ((forceL ss).filter (covB x)) = n) → (¬ k = 0 → n = 0) → Below w.heap.size w w' → .returned (.tuple #[.int .i64 n, .int .i64 k]) = Ending.returned (.tuple #[.int .i64 (covN ss x), .int .i64 (covE ss x)]) ∧ Below w.heap.size w w') := show ∀ _ _ _, _ → _ → _ → _ → _ from fun n k w' h1 h2 h3 h4 => by
    refine ⟨?_, h4⟩
    unfold covN
    rw [h1]
    by_cases hk : k = 0
    · rw [if_pos hk, h2 hk]
    · rw [if_neg hk, h3 hk]
  have HCE : Hid (covE ss x = if forceE ss ≠ 0 then forceE ss else if strangeB x.p x.xl x.xh x.yl x.yh x.tl x.th then 7 else 0) := show _ = _ from rfl
  have HCC := Lib.hid (fun (xb ob b nn : Nat) (D : DataW Unit) (W : World) (h1 : cellsAt W xb 27 #[.int .i64 x.p, .int .i64 x.xl, .int .i64 x.xh, .int .i64 x.yl, .int .i64 x.yh, .int .i64 x.tl, .int .i64 x.th]) (h2 : W.cell? ⟨ob, 0, none⟩ = some (.func (.func 118) #[] #[])) h3 h4 => callsIn_wide.1 (chosen_cov (covB x) xb ob b nn D W (fun y W2 hb => cov120 x y.1 (okN_bd y.2) xb ob W2 (h1.below hb) (below_cell hb h2)) h3 h4))
  have HCL : Hid (∀ (D : DataW Unit) (qs : List NT) (ps : List (Int × NTo)), NtRel D (forceL ss) → AllOfN D (ps.map pairN) → qs.Perm (chP (covB x) (ps.map (·.2))) → (qs.Pairwise fun x y => x.n ≤ y.n) → qs = (forceL ss).filter (covB x)) := show ∀ _ _ _, _ → _ → _ → _ → _ from fun D qs ps h1 h2 h3 h4 => chosen_list h1 h2 h3 h4
  have HFB : Hid ((forceL ss).filter (covB x) = (forceL ss).filter (covB x)) := show _ = _ from rfl
  generalize covN ss x = CN at *
  generalize covE ss x = CE at *
  generalize (forceL ss).filter (covB x) = CL at *
  unfold FPost at HF
  generalize forceE ss = FE at *
  generalize hst : strangeB x.p x.xl x.xh x.yl x.yh x.tl x.th = sb at *
  clear hst HFB
  go_enter Tryz.func49, Tryz.ntmps49
  go_wp2_with fail
  have hX := cellsNew w #[.int .i64 x.p, .int .i64 x.xl, .int .i64 x.xh, .int .i64 x.yl, .int .i64 x.yh, .int .i64 x.tl, .int .i64 x.th] 27
  have hB : Below w.heap.size w (w.alloc (.cells #[.int .i64 x.p, .int .i64 x.xl, .int .i64 x.xh, .int .i64 x.yl, .int .i64 x.yh, .int .i64 x.tl, .int .i64 x.th] 27)) := balloc (Below.refl _ _) _
  generalize w.alloc (.cells #[.int .i64 x.p, .int .i64 x.xl, .int .i64 x.xh, .int .i64 x.yl, .int .i64 x.yh, .int .i64 x.tl, .int .i64 x.th] 27) = W1 at *
  refine (HF.out _ (HV.out.below hB)).mono ?_
  rintro e w2 (⟨hfe, rfl, hb2⟩ | ⟨rfl, b, D, nn, rfl, hbb, hown, hnn, hR, hb2⟩)
  · have hfe' : (FE != 0) = true := by simpa using hfe
    have HC2 : Hid (CE = FE) := show _ = _ from by rw [HCE.out, if_pos hfe]
    have HN := Lib.hid hfe
    clear hfe
    go_wp2_with fail
    go_ret2
    exact HEND.out 0 FE _ HC2.out (fun h => absurd h HN.out) (fun _ => rfl) (below_trans hB hb2)
  · have hX2 := hX.below hb2
    have hB2 := below_trans hB hb2
    have HOWN := Lib.hid hown
    have HRR := Lib.hid hR
    clear hown hR
    obtain ⟨z0, z1, z2, z3, z4, z5, z6⟩ := cells7y hX2
    go_wp2_with fail
    refine (HST.out _).mono ?_
    rintro e w3 ⟨rfl, hb3⟩
    clear z0 z1 z2 z3 z4 z5 z6
    have hX3 := hX2.below hb3
    have hB3 := below_trans hB2 hb3
    cases sb with
    | true =>
      have HC2 : Hid (CE = 7) := show _ = _ from by rw [HCE.out]; simp
      go_wp2_with fail
      go_ret2
      exact HEND.out 0 7 _ HC2.out (fun h => by omega) (fun _ => rfl) hB3
    | false =>
      have HC2 : Hid (CE = 0) := show _ = _ from by rw [HCE.out]; simp
      have hO := cellsNew w3 #[.func (.func 118) #[] #[]] 180
      have hbO : Below w3.heap.size w3 (w3.alloc (.cells #[.func (.func 118) #[] #[]] 180)) := balloc (Below.refl _ _) _
      have hX4 := hX3.below hbO
      have HOW4 := Lib.hid (owns_below HOWN.out (below_trans hb3 hbO))
      have hB4 := below_trans hB3 hbO
      have HCC2 := Lib.hid (HCC.out w.heap.size w3.heap.size b nn D _ hX4 (hO.cell 0) HOW4.out (Nat.le_trans HOW4.out.size_le (by omega)))
      go_wp2_with fail
      refine HCC2.out.mono ?_
      rintro e w5 ⟨v5, ps, qs, rfl, ha, hp, hs5, hr5, hb5⟩
      obtain rfl : qs = CL := HCL.out D qs ps HRR.out ha hp hs5
      have hB5 := below_trans hB4 hb5
      obtain ⟨a5, c5, rfl, hh⟩ := id hr5
      cases qs with
      | nil =>
        go_wp2_with fail
        go_ret2
        exact HEND.out 0 0 _ HC2.out (fun _ => rfl) (fun h => absurd rfl h) hB5
      | cons y qs =>
        rcases hh with h0 | ⟨g5, off5, rfl, hg5, hc5⟩
        · simp at h0
        have e0 : w5.cell? ⟨g5, off5, none⟩ = some (.int .i64 y.n) := hc5 0 (by simp)
        clear hc5
        go_wp2_with fail
        go_ret2
        exact HEND.out y.n 0 _ HC2.out (fun _ => rfl) (fun h => absurd rfl h) hB5
end Go.Proofs.YtmglbegbijofkaaGreatDoor
