import Derived.Test.YtmglbegbijofkaaGreatDoorW38
import Derived.Test.YtmglbegbijofkaaGreatDoorW27
set_option linter.unusedVariables false
set_option linter.unusedSimpArgs false
namespace Go.Proofs.YtmglbegbijofkaaGreatDoor
open Go.RowKit

theorem comLo_ge (lo : Int) (l : List (Int × Int)) : lo ≤ comLo lo l := by
  unfold comLo
  induction l generalizing lo with
  | nil => simp
  | cons s t ih => simp only [List.foldl_cons]; have := ih (max lo s.1); omega
theorem comHi_le (hi : Int) (l : List (Int × Int)) : comHi hi l ≤ hi := by
  unfold comHi
  induction l generalizing hi with
  | nil => simp
  | cons s t ih => simp only [List.foldl_cons]; have := ih (min hi s.2); omega
theorem room_touch {sp cl lo hi t : Int} {ss : List Sight} {a b c d : Int} (hw : whB sp cl lo hi t ss = true) (h1 : a ≤ b) (h2 : c ≤ d) :
    roomB sp cl lo hi t ss a b c d lo hi = (touchB (whXL sp t ss) (whXH sp t ss) a b && touchB (whYL sp t ss) (whYH sp t ss) c d) := by
  unfold whB at hw
  simp only [Bool.and_eq_true, decide_eq_true_eq] at hw
  obtain ⟨⟨k1, k2⟩, k3⟩ := hw
  have z1 : lo ≤ whZL cl lo t ss := comLo_ge _ _
  have z2 : whZH cl hi t ss ≤ hi := comHi_le _ _
  unfold roomB touchB
  rw [Bool.eq_iff_iff]
  simp only [Bool.and_eq_true, Bool.not_eq_true', decide_eq_false_iff_not, decide_eq_true_eq]
  omega
/-- the cells that the test of two spans reads -/
def ST (nb bl offl k : Nat) (A0 A1 A2 A3 : Int) (X : Impact) (w' : World) : Prop :=
  w'.cell? ⟨nb, 0, none⟩ = some (.int .i64 A0) ∧ w'.cell? ⟨nb, 1, none⟩ = some (.int .i64 A1) ∧ w'.cell? ⟨nb, 2, none⟩ = some (.int .i64 A2) ∧ w'.cell? ⟨nb, 3, none⟩ = some (.int .i64 A3) ∧
    w'.cell? ⟨bl, offl + k * 7 + 1, none⟩ = some (.int .i64 X.xl) ∧ w'.cell? ⟨bl, offl + k * 7 + 2, none⟩ = some (.int .i64 X.xh) ∧ w'.cell? ⟨bl, offl + k * 7 + 3, none⟩ = some (.int .i64 X.yl) ∧ w'.cell? ⟨bl, offl + k * 7 + 4, none⟩ = some (.int .i64 X.yh)
theorem ST.of {nb bl offl k : Nat} {A0 A1 A2 A3 : Int} {l : List Impact} {X : Impact} {c : Nat} {w' : World} (hN : cellsAt w' nb 25 #[.int .i64 A0, .int .i64 A1, .int .i64 A2, .int .i64 A3]) (hI : ImpactsAt w' (.slice (some ⟨bl, offl, none⟩) l.length c) l) (hX : imAt l k = X) (hk : k < l.length) : ST nb bl offl k A0 A1 A2 A3 X w' := by
  subst hX
  obtain ⟨a', c', hac, h0 | ⟨b, off, rfl, hb, hc⟩⟩ := hI
  · omega
  · simp only [Value.slice.injEq, Option.some.injEq, Addr.mk.injEq] at hac
    obtain ⟨⟨rfl, rfl, _⟩, _, _⟩ := hac
    obtain ⟨n0, n1, n2, n3⟩ := cells4 hN
    obtain ⟨_, s1, s2, s3, s4, _, _⟩ := impact_cells hc hk
    exact ⟨n0, n1, n2, n3, s1, s2, s3, s4⟩
theorem shIn_err {c : Craft} {i : Nat} {l : List Impact} {n k : Nat} {acc : List (Int × Int × Int)} {e : Int} (h : fE c (imAt l k) = e) (he : ¬ e = 0) : shIn c i l (n + 1) k acc = (e, []) := by
  simp only [shIn, h, ne_eq, he, not_false_eq_true, if_true]
theorem shOut_err {cs : List Craft} {l : List Impact} {n i : Nat} {acc : List (Int × Int × Int)} {e : Int} (h : shIn (crAt cs i) i l l.length 0 acc = (e, [])) (he : ¬ e = 0) : shOut cs l (n + 1) i acc = (e, []) := by
  simp only [shOut, h, ne_eq, he, not_false_eq_true, if_true]

set_option maxRecDepth 100000 in
set_option maxHeartbeats 4000000 in
theorem rships_any (vl vc : Value) (l : List Impact) (cs : List Craft) (w : World) (hl : ImpactsAt w vl l) (hc : CraftsAt w vc cs) (hn : l.length ≤ 9223372036854775806) (hm : cs.length ≤ 9223372036854775806) :
    Calls Tryz.prog 45 #[vl, vc] w (MeetsPost w (shipsR l cs)) := by
  obtain ⟨al, cl, rfl, hx⟩ := id hl
  obtain ⟨ac, cc, rfl, hy⟩ := id hc.row
  clear hx hy
  have HL := Lib.hid hl
  have HC := Lib.hid hc
  clear hl hc
  have NP : Hid (∀ (W : World), W.ownsRow w.heap.size 85 3 (.slice none 0 0) 0 (mtc [])) := fun W => by simpa [mtc] using World.ownsRow_nil W _ _ _
  obtain ⟨i0, hi, hz0, hz1, hz2⟩ := info_parts Tryz.info85
  by_cases hlong : 12 < l.length ∨ 12 < cs.length
  · have HR : Hid (shipsR l cs = (3, [])) := show _ = _ from by unfold shipsR; rw [if_pos hlong]
    have key : 12 < l.length ∨ (l.length ≤ 12 ∧ 12 < cs.length) := by omega
    clear hlong
    rcases key with h1 | ⟨h1, h2⟩
    all_goals
      go_enter Tryz.func45, Tryz.ntmps45
      go_wp2_with fail
      go_loopw [6, 7] (fun e i wr => e = .int .i64 3 ∧ i = .int .i64 0 ∧ wr = w) (fun _ _ _ => 0)
      case atStart => exact ⟨rfl, rfl, rfl⟩
      case round =>
        obtain ⟨rfl, rfl, rfl⟩ := hrel
        by_cases h0 : 0 < l.length
        · have hd : decide ((0 : Int) < (l.length : Int)) = true := decide_eq_true (by omega)
          go_wp2_with fail
          go_ret2
          exact meets_of HR.out ⟨_, rfl, NP.out _, Below.refl _ _⟩
        · have hd : decide ((0 : Int) < (l.length : Int)) = false := decide_eq_false (by omega)
          go_wp2_with fail
          go_ret2
          exact meets_of HR.out ⟨_, rfl, NP.out _, Below.refl _ _⟩
  · have hl12 : l.length ≤ 12 := by omega
    have hc12 : cs.length ≤ 12 := by omega
    have HLG := Lib.hid hlong
    clear hlong
    go_enter Tryz.func45, Tryz.ntmps45
    go_wp2_with fail
    go_loopw [6, 7] (fun e i wr => ∃ k : Nat, k ≤ l.length ∧ i = .int .i64 k ∧ Below w.heap.size w wr ∧ ((e = .int .i64 0 ∧ Hid (∀ j, j < k → strangeI (imAt l j) = false)) ∨ (e = .int .i64 7 ∧ Hid (l.any strangeI = true)))) (fun _ i _ => l.length - (intOf i).toNat)
    case atStart => exact ⟨0, Nat.zero_le _, rfl, Below.refl _ _, .inl ⟨rfl, fun j hj => by omega⟩⟩
    case round =>
      obtain ⟨k, hk, rfl, hB, ⟨rfl, HS⟩ | ⟨rfl, HS⟩⟩ := hrel
      · by_cases hlt : k < l.length
        · skip
          have hv2 := HL.out.below hB
          obtain ⟨a', c', hac, h0 | ⟨b, off, rfl, hb, hc⟩⟩ := hv2
          · omega
          · simp only [Value.slice.injEq] at hac
            obtain ⟨rfl, _, rfl⟩ := hac
            obtain ⟨s0, s1, s2, s3, s4, s5, s6⟩ := impact_cells hc hlt
            have HX : Hid (strangeI (imAt l k) = strangeB (imAt l k).p (imAt l k).xl (imAt l k).xh (imAt l k).yl (imAt l k).yh (imAt l k).tl (imAt l k).th) := show _ = _ from rfl
            have HI := Lib.hid (fun W => rimpact_any (imAt l k).p (imAt l k).xl (imAt l k).xh (imAt l k).yl (imAt l k).yh (imAt l k).tl (imAt l k).th W)
            have HIN : Hid (strangeI (imAt l k) = true → l.any strangeI = true) := fun h => List.any_eq_true.2 ⟨imAt l k, by simp [imAt, hlt], h⟩
            have HSN : Hid (strangeI (imAt l k) = false → ∀ j, j < k + 1 → strangeI (imAt l j) = false) := fun h j hj => by
              by_cases e : j = k
              · subst e; exact h
              · exact HS.out j (by omega)
            rw [← HX.out] at HI
            clear HX hc
            generalize strangeI (imAt l k) = sb at *
            generalize imAt l k = x at s0 s1 s2 s3 s4 s5 s6 HI
            cases sb with
            | true =>
              simp only [Bool.not_true] at HI
              go_wp2_with fail
              refine (HI.out _).mono ?_
              rintro e w2 ⟨rfl, hb2⟩
              have hB2 := below_trans hB hb2
              clear s0 s1 s2 s3 s4 s5 s6 hb2
              go_wp2_with fail
              go_roundw
              case rel => exact ⟨k + 1, by omega, by go_num, hB2, .inr ⟨rfl, by first | exact HIN.out trivial | exact HIN.out rfl⟩⟩
              case measure => simp [intOf]; omega
            | false =>
              simp only [Bool.not_false] at HI
              go_wp2_with fail
              refine (HI.out _).mono ?_
              rintro e w2 ⟨rfl, hb2⟩
              have hB2 := below_trans hB hb2
              clear s0 s1 s2 s3 s4 s5 s6 hb2
              go_wp2_with fail
              go_roundw
              case rel => exact ⟨k + 1, by omega, by go_num, hB2, .inl ⟨rfl, by first | exact HSN.out trivial | exact HSN.out rfl⟩⟩
              case measure => simp [intOf]; omega
        · obtain rfl : k = l.length := by omega
          have HA : Hid (l.any strangeI = false) := show _ = _ from by
            rw [List.any_eq_false]
            intro x hx
            obtain ⟨j, hj, rfl⟩ := List.mem_iff_getElem.1 hx
            have := HS.out j hj
            simpa [imAt, hj] using this
          have hd : decide ((l.length : Int) < (l.length : Int)) = false := decide_eq_false (by omega)
          go_wp2_with fail
          refine (rcrafts_any _ _ _ (HC.out.below hB) (by omega)).mono ?_
          rintro e w2 ⟨rfl, hb2⟩
          have hB2 := below_trans hB hb2
          clear hB hb2
          by_cases hz : fleetE cs = 0
          · have hz' : (fleetE cs != 0) = false := by simpa using hz
            have HR : Hid (shipsR l cs = shOut cs l cs.length 0 []) := show _ = _ from by unfold shipsR; rw [if_neg HLG.out, if_neg (by simp [HA.out]), if_neg (by simp [hz])]
            have HOK := Lib.hid (fleetE_zero hz)
            have HST := Lib.hid (not_strange HA.out)
            rw [hz]
            clear hz hz' hd HS HA
            go_wp2_with fail
            have HL2 := Lib.hid (HL.out.below hB2)
            have HC2 := Lib.hid (HC.out.below hB2)
            have hsz2 : w.heap.size ≤ w2.heap.size := hB2.size
            clear HL HC
            go_loopw [8, 9, 10, 11] (fun v i _ _ wr => ∃ (n : Nat) (acc : List (Int × Int × Int)), n ≤ cs.length ∧ i = .int .i64 n ∧ acc.length ≤ n * 12 ∧ wr.ownsRow w2.heap.size 85 3 v acc.length (mtc acc) ∧ Below w2.heap.size w2 wr ∧ Hid (shOut cs l cs.length 0 [] = shOut cs l (cs.length - n) n acc)) (fun _ i _ _ _ => cs.length - (intOf i).toNat)
            case atStart => exact ⟨0, [], Nat.zero_le _, rfl, by simp, by simpa [mtc] using World.ownsRow_nil _ _ _ _, Below.refl _ _, rfl⟩
            case round =>
              obtain ⟨n, acc, hnn, rfl, hal, hown, hBw, HSO⟩ := hrel
              obtain ⟨wo, rfl⟩ : ∃ wo : World, wo = wr := ⟨_, rfl⟩
              by_cases hlt : n < cs.length
              · have HSO1 : Hid (∀ acc', shIn (crAt cs n) n l l.length 0 acc = (0, acc') → shOut cs l cs.length 0 [] = shOut cs l (cs.length - (n + 1)) (n + 1) acc') := fun acc' h => by
                  rw [HSO.out, show cs.length - n = (cs.length - (n + 1)) + 1 by omega]
                  simp [shOut, h]
                have HSOE : Hid (∀ e : Int, ¬ e = 0 → shIn (crAt cs n) n l l.length 0 acc = (e, []) → shipsR l cs = (e, [])) := fun e he h => by
                  rw [HR.out, HSO.out, show cs.length - n = (cs.length - (n + 1)) + 1 by omega]
                  exact shOut_err h he
                go_wp2_with fail
                go_loopw [8, 10, 11] (fun v k _ wr => ∃ (m : Nat) (acc' : List (Int × Int × Int)), m ≤ l.length ∧ k = .int .i64 m ∧ acc'.length ≤ n * 12 + m ∧ wr.ownsRow w2.heap.size 85 3 v acc'.length (mtc acc') ∧ Below w2.heap.size w2 wr ∧ Hid (shIn (crAt cs n) n l l.length 0 acc = shIn (crAt cs n) n l (l.length - m) m acc')) (fun _ k _ _ => l.length - (intOf k).toNat)
                case atStart => exact ⟨0, acc, Nat.zero_le _, rfl, by omega, hown, hBw, rfl⟩
                case round =>
                  obtain ⟨k, acc', hk, rfl, hal', hown, hB, HSI⟩ := hrel
                  obtain ⟨wo2, rfl⟩ : ∃ wo : World, wo = wr := ⟨_, rfl⟩
                  by_cases hkl : k < l.length
                  · skip
                    have HOKn := Lib.hid (craft_ok (show crE (crAt cs n).nm.data.toList (crAt cs n).sp (crAt cs n).cl (crAt cs n).lo (crAt cs n).hi (crAt cs n).ss = 0 from HOK.out n hlt))
                    have hsx : strangeI (imAt l k) = false := HST.out k hkl
                    obtain ⟨x0, ⟨⟨x1, x2, x3⟩, x4, x5, x6⟩, x7, x8, x9, x10⟩ := strangeB_false.1 hsx
                    have HSI1 : Hid (∀ t : Int, fE (crAt cs n) (imAt l k) = 0 → fT (crAt cs n) (imAt l k) = t → shIn (crAt cs n) n l l.length 0 acc = shIn (crAt cs n) n l (l.length - (k + 1)) (k + 1) (shAdd n k t acc')) := fun t h1 h2 => by
                      rw [HSI.out, show l.length - k = (l.length - (k + 1)) + 1 by omega]
                      simp [shIn, h1, h2]
                    have HSIE : Hid (fE (crAt cs n) (imAt l k) = 9 → shipsR l cs = (9, [])) := fun h1 => by
                      refine HSOE.out 9 (by omega) ?_
                      rw [HSI.out, show l.length - k = (l.length - (k + 1)) + 1 by omega]
                      exact shIn_err h1 (by omega)
                    have HX : Hid (∃ X, imAt l k = X) := ⟨_, rfl⟩
                    have hIM := HL2.out.below hB
                    obtain ⟨al', cl', hac, h0 | ⟨bl, offl, rfl, hbl, hcl⟩⟩ := id hIM
                    · omega
                    · simp only [Value.slice.injEq] at hac
                      obtain ⟨rfl, _, rfl⟩ := hac
                      have s5 := (impact_cells hcl hkl).2.2.2.2.2.1
                      have HRB : Hid (∀ t, whB (crAt cs n).sp (crAt cs n).cl (crAt cs n).lo (crAt cs n).hi t (crAt cs n).ss = true → roomB (crAt cs n).sp (crAt cs n).cl (crAt cs n).lo (crAt cs n).hi t (crAt cs n).ss (imAt l k).xl (imAt l k).xh (imAt l k).yl (imAt l k).yh (crAt cs n).lo (crAt cs n).hi = (touchB (whXL (crAt cs n).sp t (crAt cs n).ss) (whXH (crAt cs n).sp t (crAt cs n).ss) (imAt l k).xl (imAt l k).xh && touchB (whYL (crAt cs n).sp t (crAt cs n).ss) (whYH (crAt cs n).sp t (crAt cs n).ss) (imAt l k).yl (imAt l k).yh)) := fun t h => room_touch h x3 x6
                      clear HX hcl hsx
                      obtain ⟨X, HX⟩ : ∃ X, Hid (imAt l k = X) := ⟨_, rfl⟩
                      rw [HX.out] at s5 x0 x1 x2 x3 x4 x5 x6 x7 x8 x9 x10 HRB HSI1 HSIE
                      obtain ⟨C, HCC⟩ : ∃ C, Hid (crAt cs n = C) := ⟨_, rfl⟩
                      rw [HCC.out] at HOKn HRB HSI1 HSIE
                      go_wp2_with fail
                      go_loopw [8, 11] (fun v t wr => ∃ q : Nat, q ≤ (X.th + 1 - X.tl).toNat ∧ t = .int .i64 (X.tl + q) ∧ wr.ownsRow w2.heap.size 85 3 v acc'.length (mtc acc') ∧ Below w2.heap.size w2 wr ∧ Hid (fT C X = firstT C.sp C.cl C.lo C.hi C.ss (fO C X) ((X.th + 1 - X.tl).toNat - q) (X.tl + q)) ∧ Hid (fE C X = firstE C.sp C.cl C.lo C.hi C.ss (fO C X) ((X.th + 1 - X.tl).toNat - q) (X.tl + q))) (fun _ t _ => (X.th + 1 - intOf t).toNat)
                      case atStart => exact ⟨0, Nat.zero_le _, by simp, hown, hB, by simp [Hid, fT], by simp [Hid, fE]⟩
                      case round =>
                        obtain ⟨q, hq, rfl, hown, hB, HFT, HFE⟩ := hrel
                        have hIM := HL2.out.below hB
                        have s6 : wr.cell? ⟨bl, offl + k * 7 + 6, none⟩ = some (.int .i64 X.th) := by
                          obtain ⟨a1, c1, hac, h0 | ⟨b1, o1, rfl, hb1, hc1⟩⟩ := id hIM
                          · omega
                          · simp only [Value.slice.injEq, Option.some.injEq, Addr.mk.injEq] at hac
                            obtain ⟨⟨rfl, rfl, _⟩, _, _⟩ := hac
                            rw [← HX.out]
                            exact (impact_cells hc1 hkl).2.2.2.2.2.2
                        by_cases htt : X.tl + q ≤ X.th
                        · have hv2 := HC2.out.below hB
                          obtain ⟨ac', cc', hac, h0 | ⟨bc, offc, rfl, hbc, hcc⟩⟩ := hv2.row
                          · omega
                          · simp only [Value.slice.injEq] at hac
                            obtain ⟨rfl, _, rfl⟩ := hac
                            obtain ⟨c0, c1, c2, c3, c4, c5⟩ := craft_cells hcc hlt
                            have hsg := hv2.at_ n hlt
                            rw [HCC.out] at c0 c1 c2 c3 c4 c5 hsg
                            have HW := Lib.hid (rwhere_any C.nm C.sp C.cl C.lo C.hi C.v C.ss (X.tl + q) wr hsg (by omega) (by omega) HOKn.out.s0 HOKn.out.s1 HOKn.out.c0 HOKn.out.c1 HOKn.out.n0 HOKn.out.n1 HOKn.out.sg)
                            have HT1 : Hid (fT C X = if !whB C.sp C.cl C.lo C.hi (X.tl + q) C.ss then 0 else if roomB C.sp C.cl C.lo C.hi (X.tl + q) C.ss X.xl X.xh X.yl X.yh C.lo C.hi then X.tl + q else firstT C.sp C.cl C.lo C.hi C.ss (fO C X) ((X.th + 1 - X.tl).toNat - (q + 1)) (X.tl + q + 1)) := show _ = _ from by rw [HFT.out, show (X.th + 1 - X.tl).toNat - q = ((X.th + 1 - X.tl).toNat - (q + 1)) + 1 by omega]; rfl
                            have HE1 : Hid (fE C X = if !whB C.sp C.cl C.lo C.hi (X.tl + q) C.ss then 9 else if roomB C.sp C.cl C.lo C.hi (X.tl + q) C.ss X.xl X.xh X.yl X.yh C.lo C.hi then 0 else firstE C.sp C.cl C.lo C.hi C.ss (fO C X) ((X.th + 1 - X.tl).toNat - (q + 1)) (X.tl + q + 1)) := show _ = _ from by rw [HFE.out, show (X.th + 1 - X.tl).toNat - q = ((X.th + 1 - X.tl).toNat - (q + 1)) + 1 by omega]; rfl
                            have HR1 := Lib.hid (HRB.out (X.tl + q))
                            have ekq : X.tl + (q : Int) + 1 = X.tl + ((q + 1 : Nat) : Int) := by omega
                            rw [ekq] at HT1 HE1
                            have tb0 : 0 ≤ X.tl + (q : Int) := by omega
                            unfold RWhereEnd at HW
                            clear hcc hv2 hsg hIM ekq HFT HFE
                            generalize whXL C.sp (X.tl + q) C.ss = A0 at *
                            generalize whXH C.sp (X.tl + q) C.ss = A1 at *
                            generalize whYL C.sp (X.tl + q) C.ss = A2 at *
                            generalize whYH C.sp (X.tl + q) C.ss = A3 at *
                            generalize whZL C.cl C.lo (X.tl + q) C.ss = A4 at *
                            generalize whZH C.cl C.hi (X.tl + q) C.ss = A5 at *
                            generalize roomB C.sp C.cl C.lo C.hi (X.tl + q) C.ss X.xl X.xh X.yl X.yh C.lo C.hi = rb at *
                            generalize whB C.sp C.cl C.lo C.hi (X.tl + q) C.ss = wb at *
                            have HCf : Hid (C = ⟨C.nm, C.sp, C.cl, C.lo, C.hi, C.v, C.ss⟩) := show _ = _ from rfl
                            go_wp2_with fail
                            refine HW.out.mono ?_
                            rintro e w3 ⟨rfl, hb3⟩
                            obtain ⟨hN, hM, hzz, hbN⟩ := alloc2 w3 #[.int .i64 A0, .int .i64 A1, .int .i64 A2, .int .i64 A3] #[.int .i64 A4, .int .i64 A5] 25 23
                            have hB := below_trans (below_trans hB hb3) hbN
                            have hown := ownsRow_below (ownsRow_below hown hb3) hbN
                            clear hzz hM hb3 hbN c0 c1 c2 c3 c4 c5 s6
                            cases wb with
                            | false =>
                              have HF := Lib.hid (HSIE.out (by rw [HE1.out]; rfl))
                              go_wp2_with fail
                              go_ret2
                              exact meets_of HF.out ⟨_, rfl, NP.out _, below_trans hB2 hB⟩
                            | true =>
                              have HR2 := Lib.hid (HR1.out rfl)
                              clear HR1
                              go_wp2_with fail
                              generalize (w3.alloc (.cells #[.int .i64 A0, .int .i64 A1, .int .i64 A2, .int .i64 A3] 25)).alloc (.cells #[.int .i64 A4, .int .i64 A5] 23) = W4 at *
                              generalize w3.heap.size = nb at *
                              have hIM := HL2.out.below hB
                              have i1 : (0 : Int) ≤ (k : Int) := by omega
                              have i2 : (k : Int) < (l.length : Int) := by omega
                              have hK : ST nb bl offl k A0 A1 A2 A3 X W4.drew := ST.of hN.drew (hIM.below (Below.refl _ _).drew) HX.out hkl
                              have HTX := Lib.hid (fun W => rtouch_any A0 A1 X.xl X.xh W)
                              have HTY := Lib.hid (fun W => rtouch_any A2 A3 X.yl X.yh W)
                              generalize touchB A0 A1 X.xl X.xh = tx at *
                              generalize touchB A2 A3 X.yl X.yh = ty at *
                              refine wp_region_noPanic ?_
                              refine wp_region_held_drew (S := ST nb bl offl k A0 A1 A2 A3 X) (by kernel_rfl) hK (fun _ => ?_)
                              first | (refine wpAnyH_take (i := 0) (v := ?_) rfl (by kernel_rfl) (by kernel_rfl) (by kernel_rfl) (fun _ _ _ h => h) (Or.inl ⟨by rfl, ?_⟩) hK ?_; rotate_left; (focus (intro w' hSw; obtain ⟨z0, z1, z2, z3, z4, z5, z6, z7⟩ := hSw; go_simp; (try with_reducible rfl); done)); (try simp only [Act.put, List.setIfInBounds_toArray, List.set_cons_zero, List.set_cons_succ, List.getElem_toArray, List.getElem_cons_succ, List.getElem_cons_zero])) | (refine wpAnyH_take (i := 0) (v := undef) rfl (by kernel_rfl) (by kernel_rfl) (by kernel_rfl) (fun _ _ _ h => h) (Or.inr ⟨by rfl, rfl⟩) hK ?_; (try simp only [Act.put, List.setIfInBounds_toArray, List.set_cons_zero, List.set_cons_succ, List.getElem_toArray, List.getElem_cons_succ, List.getElem_cons_zero]))
                              first | (refine wpAnyH_take (i := 1) (v := ?_) rfl (by kernel_rfl) (by kernel_rfl) (by kernel_rfl) (fun _ _ _ h => h) (Or.inl ⟨by rfl, ?_⟩) hK ?_; rotate_left; (focus (intro w' hSw; obtain ⟨z0, z1, z2, z3, z4, z5, z6, z7⟩ := hSw; go_simp; (try with_reducible rfl); done)); (try simp only [Act.put, List.setIfInBounds_toArray, List.set_cons_zero, List.set_cons_succ, List.getElem_toArray, List.getElem_cons_succ, List.getElem_cons_zero])) | (refine wpAnyH_take (i := 1) (v := undef) rfl (by kernel_rfl) (by kernel_rfl) (by kernel_rfl) (fun _ _ _ h => h) (Or.inr ⟨by rfl, rfl⟩) hK ?_; (try simp only [Act.put, List.setIfInBounds_toArray, List.set_cons_zero, List.set_cons_succ, List.getElem_toArray, List.getElem_cons_succ, List.getElem_cons_zero]))
                              first | (refine wpAnyH_take (i := 2) (v := ?_) rfl (by kernel_rfl) (by kernel_rfl) (by kernel_rfl) (fun _ _ _ h => h) (Or.inl ⟨by rfl, ?_⟩) hK ?_; rotate_left; (focus (intro w' hSw; obtain ⟨z0, z1, z2, z3, z4, z5, z6, z7⟩ := hSw; go_simp; (try with_reducible rfl); done)); (try simp only [Act.put, List.setIfInBounds_toArray, List.set_cons_zero, List.set_cons_succ, List.getElem_toArray, List.getElem_cons_succ, List.getElem_cons_zero])) | (refine wpAnyH_take (i := 2) (v := undef) rfl (by kernel_rfl) (by kernel_rfl) (by kernel_rfl) (fun _ _ _ h => h) (Or.inr ⟨by rfl, rfl⟩) hK ?_; (try simp only [Act.put, List.setIfInBounds_toArray, List.set_cons_zero, List.set_cons_succ, List.getElem_toArray, List.getElem_cons_succ, List.getElem_cons_zero]))
                              first | (refine wpAnyH_take (i := 3) (v := ?_) rfl (by kernel_rfl) (by kernel_rfl) (by kernel_rfl) (fun _ _ _ h => h) (Or.inl ⟨by rfl, ?_⟩) hK ?_; rotate_left; (focus (intro w' hSw; obtain ⟨z0, z1, z2, z3, z4, z5, z6, z7⟩ := hSw; go_simp; (try with_reducible rfl); done)); (try simp only [Act.put, List.setIfInBounds_toArray, List.set_cons_zero, List.set_cons_succ, List.getElem_toArray, List.getElem_cons_succ, List.getElem_cons_zero])) | (refine wpAnyH_take (i := 3) (v := undef) rfl (by kernel_rfl) (by kernel_rfl) (by kernel_rfl) (fun _ _ _ h => h) (Or.inr ⟨by rfl, rfl⟩) hK ?_; (try simp only [Act.put, List.setIfInBounds_toArray, List.set_cons_zero, List.set_cons_succ, List.getElem_toArray, List.getElem_cons_succ, List.getElem_cons_zero]))
                              first | (refine wpAnyH_take (i := 4) (v := ?_) rfl (by kernel_rfl) (by kernel_rfl) (by kernel_rfl) (fun _ _ _ h => h) (Or.inl ⟨by rfl, ?_⟩) hK ?_; rotate_left; (focus (intro w' hSw; obtain ⟨z0, z1, z2, z3, z4, z5, z6, z7⟩ := hSw; go_simp; (try with_reducible rfl); done)); (try simp only [Act.put, List.setIfInBounds_toArray, List.set_cons_zero, List.set_cons_succ, List.getElem_toArray, List.getElem_cons_succ, List.getElem_cons_zero])) | (refine wpAnyH_take (i := 4) (v := undef) rfl (by kernel_rfl) (by kernel_rfl) (by kernel_rfl) (fun _ _ _ h => h) (Or.inr ⟨by rfl, rfl⟩) hK ?_; (try simp only [Act.put, List.setIfInBounds_toArray, List.set_cons_zero, List.set_cons_succ, List.getElem_toArray, List.getElem_cons_succ, List.getElem_cons_zero]))
                              first | (refine wpAnyH_take (i := 5) (v := ?_) rfl (by kernel_rfl) (by kernel_rfl) (by kernel_rfl) (fun _ _ _ h => h) (Or.inl ⟨by rfl, ?_⟩) hK ?_; rotate_left; (focus (intro w' hSw; obtain ⟨z0, z1, z2, z3, z4, z5, z6, z7⟩ := hSw; go_simp; (try with_reducible rfl); done)); (try simp only [Act.put, List.setIfInBounds_toArray, List.set_cons_zero, List.set_cons_succ, List.getElem_toArray, List.getElem_cons_succ, List.getElem_cons_zero])) | (refine wpAnyH_take (i := 5) (v := undef) rfl (by kernel_rfl) (by kernel_rfl) (by kernel_rfl) (fun _ _ _ h => h) (Or.inr ⟨by rfl, rfl⟩) hK ?_; (try simp only [Act.put, List.setIfInBounds_toArray, List.set_cons_zero, List.set_cons_succ, List.getElem_toArray, List.getElem_cons_succ, List.getElem_cons_zero]))
                              first | (refine wpAnyH_take (i := 6) (v := ?_) rfl (by kernel_rfl) (by kernel_rfl) (by kernel_rfl) (fun _ _ _ h => h) (Or.inl ⟨by rfl, ?_⟩) hK ?_; rotate_left; (focus (intro w' hSw; obtain ⟨z0, z1, z2, z3, z4, z5, z6, z7⟩ := hSw; go_simp; (try with_reducible rfl); done)); (try simp only [Act.put, List.setIfInBounds_toArray, List.set_cons_zero, List.set_cons_succ, List.getElem_toArray, List.getElem_cons_succ, List.getElem_cons_zero])) | (refine wpAnyH_take (i := 6) (v := undef) rfl (by kernel_rfl) (by kernel_rfl) (by kernel_rfl) (fun _ _ _ h => h) (Or.inr ⟨by rfl, rfl⟩) hK ?_; (try simp only [Act.put, List.setIfInBounds_toArray, List.set_cons_zero, List.set_cons_succ, List.getElem_toArray, List.getElem_cons_succ, List.getElem_cons_zero]))
                              first | (refine wpAnyH_take (i := 7) (v := ?_) rfl (by kernel_rfl) (by kernel_rfl) (by kernel_rfl) (fun _ _ _ h => h) (Or.inl ⟨by rfl, ?_⟩) hK ?_; rotate_left; (focus (intro w' hSw; obtain ⟨z0, z1, z2, z3, z4, z5, z6, z7⟩ := hSw; go_simp; (try with_reducible rfl); done)); (try simp only [Act.put, List.setIfInBounds_toArray, List.set_cons_zero, List.set_cons_succ, List.getElem_toArray, List.getElem_cons_succ, List.getElem_cons_zero])) | (refine wpAnyH_take (i := 7) (v := undef) rfl (by kernel_rfl) (by kernel_rfl) (by kernel_rfl) (fun _ _ _ h => h) (Or.inr ⟨by rfl, rfl⟩) hK ?_; (try simp only [Act.put, List.setIfInBounds_toArray, List.set_cons_zero, List.set_cons_succ, List.getElem_toArray, List.getElem_cons_succ, List.getElem_cons_zero]))
                              refine wpAnyH_ready (rs := [8]) (by kernel_rfl) (by simp) (AllReadyH.cons rfl (fun K' hK' => ?_) AllReadyH.nil)
                              go_simp
                              refine (HTX.out _).mono ?_
                              rintro e w5 ⟨rfl, hbA⟩
                              (try dsimp only)
                              (try (with_reducible have hbA := below_drew' hbA))
                              have hN := hN.below hbA
                              have hIM := hIM.below hbA
                              have hown := ownsRow_below hown hbA
                              have hB := below_trans hB hbA
                              have hK : ST nb bl offl k A0 A1 A2 A3 X w5 := ST.of hN hIM HX.out hkl
                              refine hK'.out _ _ hK (fun _ => ?_)
                              clear hK' K' hbA
                              (try simp only [Act.put, List.setIfInBounds_toArray, List.set_cons_zero, List.set_cons_succ, List.getElem_toArray, List.getElem_cons_succ, List.getElem_cons_zero])
                              cases tx with
                              | false =>
                                first | (refine wpAnyH_take (i := 9) (v := ?_) rfl (by kernel_rfl) (by kernel_rfl) (by kernel_rfl) (fun _ _ _ h => h) (Or.inl ⟨by rfl, ?_⟩) hK ?_; rotate_left; (focus (intro w' hSw; obtain ⟨z0, z1, z2, z3, z4, z5, z6, z7⟩ := hSw; go_simp; (try with_reducible rfl); done)); (try simp only [Act.put, List.setIfInBounds_toArray, List.set_cons_zero, List.set_cons_succ, List.getElem_toArray, List.getElem_cons_succ, List.getElem_cons_zero])) | (refine wpAnyH_take (i := 9) (v := undef) rfl (by kernel_rfl) (by kernel_rfl) (by kernel_rfl) (fun _ _ _ h => h) (Or.inr ⟨by rfl, rfl⟩) hK ?_; (try simp only [Act.put, List.setIfInBounds_toArray, List.set_cons_zero, List.set_cons_succ, List.getElem_toArray, List.getElem_cons_succ, List.getElem_cons_zero]))
                                first | (refine wpAnyH_take (i := 10) (v := ?_) rfl (by kernel_rfl) (by kernel_rfl) (by kernel_rfl) (fun _ _ _ h => h) (Or.inl ⟨by rfl, ?_⟩) hK ?_; rotate_left; (focus (intro w' hSw; obtain ⟨z0, z1, z2, z3, z4, z5, z6, z7⟩ := hSw; go_simp; (try with_reducible rfl); done)); (try simp only [Act.put, List.setIfInBounds_toArray, List.set_cons_zero, List.set_cons_succ, List.getElem_toArray, List.getElem_cons_succ, List.getElem_cons_zero])) | (refine wpAnyH_take (i := 10) (v := undef) rfl (by kernel_rfl) (by kernel_rfl) (by kernel_rfl) (fun _ _ _ h => h) (Or.inr ⟨by rfl, rfl⟩) hK ?_; (try simp only [Act.put, List.setIfInBounds_toArray, List.set_cons_zero, List.set_cons_succ, List.getElem_toArray, List.getElem_cons_succ, List.getElem_cons_zero]))
                                first | (refine wpAnyH_take (i := 11) (v := ?_) rfl (by kernel_rfl) (by kernel_rfl) (by kernel_rfl) (fun _ _ _ h => h) (Or.inl ⟨by rfl, ?_⟩) hK ?_; rotate_left; (focus (intro w' hSw; obtain ⟨z0, z1, z2, z3, z4, z5, z6, z7⟩ := hSw; go_simp; (try with_reducible rfl); done)); (try simp only [Act.put, List.setIfInBounds_toArray, List.set_cons_zero, List.set_cons_succ, List.getElem_toArray, List.getElem_cons_succ, List.getElem_cons_zero])) | (refine wpAnyH_take (i := 11) (v := undef) rfl (by kernel_rfl) (by kernel_rfl) (by kernel_rfl) (fun _ _ _ h => h) (Or.inr ⟨by rfl, rfl⟩) hK ?_; (try simp only [Act.put, List.setIfInBounds_toArray, List.set_cons_zero, List.set_cons_succ, List.getElem_toArray, List.getElem_cons_succ, List.getElem_cons_zero]))
                                first | (refine wpAnyH_take (i := 12) (v := ?_) rfl (by kernel_rfl) (by kernel_rfl) (by kernel_rfl) (fun _ _ _ h => h) (Or.inl ⟨by rfl, ?_⟩) hK ?_; rotate_left; (focus (intro w' hSw; obtain ⟨z0, z1, z2, z3, z4, z5, z6, z7⟩ := hSw; go_simp; (try with_reducible rfl); done)); (try simp only [Act.put, List.setIfInBounds_toArray, List.set_cons_zero, List.set_cons_succ, List.getElem_toArray, List.getElem_cons_succ, List.getElem_cons_zero])) | (refine wpAnyH_take (i := 12) (v := undef) rfl (by kernel_rfl) (by kernel_rfl) (by kernel_rfl) (fun _ _ _ h => h) (Or.inr ⟨by rfl, rfl⟩) hK ?_; (try simp only [Act.put, List.setIfInBounds_toArray, List.set_cons_zero, List.set_cons_succ, List.getElem_toArray, List.getElem_cons_succ, List.getElem_cons_zero]))
                                first | (refine wpAnyH_take (i := 13) (v := ?_) rfl (by kernel_rfl) (by kernel_rfl) (by kernel_rfl) (fun _ _ _ h => h) (Or.inl ⟨by rfl, ?_⟩) hK ?_; rotate_left; (focus (intro w' hSw; obtain ⟨z0, z1, z2, z3, z4, z5, z6, z7⟩ := hSw; go_simp; (try with_reducible rfl); done)); (try simp only [Act.put, List.setIfInBounds_toArray, List.set_cons_zero, List.set_cons_succ, List.getElem_toArray, List.getElem_cons_succ, List.getElem_cons_zero])) | (refine wpAnyH_take (i := 13) (v := undef) rfl (by kernel_rfl) (by kernel_rfl) (by kernel_rfl) (fun _ _ _ h => h) (Or.inr ⟨by rfl, rfl⟩) hK ?_; (try simp only [Act.put, List.setIfInBounds_toArray, List.set_cons_zero, List.set_cons_succ, List.getElem_toArray, List.getElem_cons_succ, List.getElem_cons_zero]))
                                first | (refine wpAnyH_take (i := 14) (v := ?_) rfl (by kernel_rfl) (by kernel_rfl) (by kernel_rfl) (fun _ _ _ h => h) (Or.inl ⟨by rfl, ?_⟩) hK ?_; rotate_left; (focus (intro w' hSw; obtain ⟨z0, z1, z2, z3, z4, z5, z6, z7⟩ := hSw; go_simp; (try with_reducible rfl); done)); (try simp only [Act.put, List.setIfInBounds_toArray, List.set_cons_zero, List.set_cons_succ, List.getElem_toArray, List.getElem_cons_succ, List.getElem_cons_zero])) | (refine wpAnyH_take (i := 14) (v := undef) rfl (by kernel_rfl) (by kernel_rfl) (by kernel_rfl) (fun _ _ _ h => h) (Or.inr ⟨by rfl, rfl⟩) hK ?_; (try simp only [Act.put, List.setIfInBounds_toArray, List.set_cons_zero, List.set_cons_succ, List.getElem_toArray, List.getElem_cons_succ, List.getElem_cons_zero]))
                                first | (refine wpAnyH_take (i := 15) (v := ?_) rfl (by kernel_rfl) (by kernel_rfl) (by kernel_rfl) (fun _ _ _ h => h) (Or.inl ⟨by rfl, ?_⟩) hK ?_; rotate_left; (focus (intro w' hSw; obtain ⟨z0, z1, z2, z3, z4, z5, z6, z7⟩ := hSw; go_simp; (try with_reducible rfl); done)); (try simp only [Act.put, List.setIfInBounds_toArray, List.set_cons_zero, List.set_cons_succ, List.getElem_toArray, List.getElem_cons_succ, List.getElem_cons_zero])) | (refine wpAnyH_take (i := 15) (v := undef) rfl (by kernel_rfl) (by kernel_rfl) (by kernel_rfl) (fun _ _ _ h => h) (Or.inr ⟨by rfl, rfl⟩) hK ?_; (try simp only [Act.put, List.setIfInBounds_toArray, List.set_cons_zero, List.set_cons_succ, List.getElem_toArray, List.getElem_cons_succ, List.getElem_cons_zero]))
                                first | (refine wpAnyH_take (i := 16) (v := ?_) rfl (by kernel_rfl) (by kernel_rfl) (by kernel_rfl) (fun _ _ _ h => h) (Or.inl ⟨by rfl, ?_⟩) hK ?_; rotate_left; (focus (intro w' hSw; obtain ⟨z0, z1, z2, z3, z4, z5, z6, z7⟩ := hSw; go_simp; (try with_reducible rfl); done)); (try simp only [Act.put, List.setIfInBounds_toArray, List.set_cons_zero, List.set_cons_succ, List.getElem_toArray, List.getElem_cons_succ, List.getElem_cons_zero])) | (refine wpAnyH_take (i := 16) (v := undef) rfl (by kernel_rfl) (by kernel_rfl) (by kernel_rfl) (fun _ _ _ h => h) (Or.inr ⟨by rfl, rfl⟩) hK ?_; (try simp only [Act.put, List.setIfInBounds_toArray, List.set_cons_zero, List.set_cons_succ, List.getElem_toArray, List.getElem_cons_succ, List.getElem_cons_zero]))
                                first | (refine wpAnyH_take (i := 17) (v := ?_) rfl (by kernel_rfl) (by kernel_rfl) (by kernel_rfl) (fun _ _ _ h => h) (Or.inl ⟨by rfl, ?_⟩) hK ?_; rotate_left; (focus (intro w' hSw; obtain ⟨z0, z1, z2, z3, z4, z5, z6, z7⟩ := hSw; go_simp; (try with_reducible rfl); done)); (try simp only [Act.put, List.setIfInBounds_toArray, List.set_cons_zero, List.set_cons_succ, List.getElem_toArray, List.getElem_cons_succ, List.getElem_cons_zero])) | (refine wpAnyH_take (i := 17) (v := undef) rfl (by kernel_rfl) (by kernel_rfl) (by kernel_rfl) (fun _ _ _ h => h) (Or.inr ⟨by rfl, rfl⟩) hK ?_; (try simp only [Act.put, List.setIfInBounds_toArray, List.set_cons_zero, List.set_cons_succ, List.getElem_toArray, List.getElem_cons_succ, List.getElem_cons_zero]))
                                first | (refine wpAnyH_take (i := 18) (v := ?_) rfl (by kernel_rfl) (by kernel_rfl) (by kernel_rfl) (fun _ _ _ h => h) (Or.inl ⟨by rfl, ?_⟩) hK ?_; rotate_left; (focus (intro w' hSw; obtain ⟨z0, z1, z2, z3, z4, z5, z6, z7⟩ := hSw; go_simp; (try with_reducible rfl); done)); (try simp only [Act.put, List.setIfInBounds_toArray, List.set_cons_zero, List.set_cons_succ, List.getElem_toArray, List.getElem_cons_succ, List.getElem_cons_zero])) | (refine wpAnyH_take (i := 18) (v := undef) rfl (by kernel_rfl) (by kernel_rfl) (by kernel_rfl) (fun _ _ _ h => h) (Or.inr ⟨by rfl, rfl⟩) hK ?_; (try simp only [Act.put, List.setIfInBounds_toArray, List.set_cons_zero, List.set_cons_succ, List.getElem_toArray, List.getElem_cons_succ, List.getElem_cons_zero]))
                                first | (refine wpAnyH_take (i := 19) (v := ?_) rfl (by kernel_rfl) (by kernel_rfl) (by kernel_rfl) (fun _ _ _ h => h) (Or.inl ⟨by rfl, ?_⟩) hK ?_; rotate_left; (focus (intro w' hSw; obtain ⟨z0, z1, z2, z3, z4, z5, z6, z7⟩ := hSw; go_simp; (try with_reducible rfl); done)); (try simp only [Act.put, List.setIfInBounds_toArray, List.set_cons_zero, List.set_cons_succ, List.getElem_toArray, List.getElem_cons_succ, List.getElem_cons_zero])) | (refine wpAnyH_take (i := 19) (v := undef) rfl (by kernel_rfl) (by kernel_rfl) (by kernel_rfl) (fun _ _ _ h => h) (Or.inr ⟨by rfl, rfl⟩) hK ?_; (try simp only [Act.put, List.setIfInBounds_toArray, List.set_cons_zero, List.set_cons_succ, List.getElem_toArray, List.getElem_cons_succ, List.getElem_cons_zero]))
                                refine wpAnyH_done (by kernel_rfl) (NoPanic.normal ?_) _
                                (try simp only [Act.put, List.setIfInBounds_toArray, List.set_cons_zero, List.set_cons_succ, List.getElem_toArray, List.getElem_cons_succ, List.getElem_cons_zero])
                                have HRf : Hid (rb = false) := show _ = _ from by rw [HR2.out]; rfl
                                have HT2 : Hid (fT C X = firstT C.sp C.cl C.lo C.hi C.ss (fO C X) ((X.th + 1 - X.tl).toNat - (q + 1)) (X.tl + ((q + 1 : Nat) : Int))) := show _ = _ from by rw [HT1.out, HRf.out]; rfl
                                have HE2 : Hid (fE C X = firstE C.sp C.cl C.lo C.hi C.ss (fO C X) ((X.th + 1 - X.tl).toNat - (q + 1)) (X.tl + ((q + 1 : Nat) : Int))) := show _ = _ from by rw [HE1.out, HRf.out]; rfl
                                clear hK HTX HTY HR2 HE1 HT1 hN hIM
                                go_wp2_with fail
                                go_roundw
                                case rel => exact ⟨q + 1, by omega, by go_num, hown, hB, HT2.out, HE2.out⟩
                                case measure => simp [intOf]; omega
                              | true =>
                                first | (refine wpAnyH_take (i := 9) (v := ?_) rfl (by kernel_rfl) (by kernel_rfl) (by kernel_rfl) (fun _ _ _ h => h) (Or.inl ⟨by rfl, ?_⟩) hK ?_; rotate_left; (focus (intro w' hSw; obtain ⟨z0, z1, z2, z3, z4, z5, z6, z7⟩ := hSw; go_simp; (try with_reducible rfl); done)); (try simp only [Act.put, List.setIfInBounds_toArray, List.set_cons_zero, List.set_cons_succ, List.getElem_toArray, List.getElem_cons_succ, List.getElem_cons_zero])) | (refine wpAnyH_take (i := 9) (v := undef) rfl (by kernel_rfl) (by kernel_rfl) (by kernel_rfl) (fun _ _ _ h => h) (Or.inr ⟨by rfl, rfl⟩) hK ?_; (try simp only [Act.put, List.setIfInBounds_toArray, List.set_cons_zero, List.set_cons_succ, List.getElem_toArray, List.getElem_cons_succ, List.getElem_cons_zero]))
                                first | (refine wpAnyH_take (i := 10) (v := ?_) rfl (by kernel_rfl) (by kernel_rfl) (by kernel_rfl) (fun _ _ _ h => h) (Or.inl ⟨by rfl, ?_⟩) hK ?_; rotate_left; (focus (intro w' hSw; obtain ⟨z0, z1, z2, z3, z4, z5, z6, z7⟩ := hSw; go_simp; (try with_reducible rfl); done)); (try simp only [Act.put, List.setIfInBounds_toArray, List.set_cons_zero, List.set_cons_succ, List.getElem_toArray, List.getElem_cons_succ, List.getElem_cons_zero])) | (refine wpAnyH_take (i := 10) (v := undef) rfl (by kernel_rfl) (by kernel_rfl) (by kernel_rfl) (fun _ _ _ h => h) (Or.inr ⟨by rfl, rfl⟩) hK ?_; (try simp only [Act.put, List.setIfInBounds_toArray, List.set_cons_zero, List.set_cons_succ, List.getElem_toArray, List.getElem_cons_succ, List.getElem_cons_zero]))
                                first | (refine wpAnyH_take (i := 11) (v := ?_) rfl (by kernel_rfl) (by kernel_rfl) (by kernel_rfl) (fun _ _ _ h => h) (Or.inl ⟨by rfl, ?_⟩) hK ?_; rotate_left; (focus (intro w' hSw; obtain ⟨z0, z1, z2, z3, z4, z5, z6, z7⟩ := hSw; go_simp; (try with_reducible rfl); done)); (try simp only [Act.put, List.setIfInBounds_toArray, List.set_cons_zero, List.set_cons_succ, List.getElem_toArray, List.getElem_cons_succ, List.getElem_cons_zero])) | (refine wpAnyH_take (i := 11) (v := undef) rfl (by kernel_rfl) (by kernel_rfl) (by kernel_rfl) (fun _ _ _ h => h) (Or.inr ⟨by rfl, rfl⟩) hK ?_; (try simp only [Act.put, List.setIfInBounds_toArray, List.set_cons_zero, List.set_cons_succ, List.getElem_toArray, List.getElem_cons_succ, List.getElem_cons_zero]))
                                first | (refine wpAnyH_take (i := 12) (v := ?_) rfl (by kernel_rfl) (by kernel_rfl) (by kernel_rfl) (fun _ _ _ h => h) (Or.inl ⟨by rfl, ?_⟩) hK ?_; rotate_left; (focus (intro w' hSw; obtain ⟨z0, z1, z2, z3, z4, z5, z6, z7⟩ := hSw; go_simp; (try with_reducible rfl); done)); (try simp only [Act.put, List.setIfInBounds_toArray, List.set_cons_zero, List.set_cons_succ, List.getElem_toArray, List.getElem_cons_succ, List.getElem_cons_zero])) | (refine wpAnyH_take (i := 12) (v := undef) rfl (by kernel_rfl) (by kernel_rfl) (by kernel_rfl) (fun _ _ _ h => h) (Or.inr ⟨by rfl, rfl⟩) hK ?_; (try simp only [Act.put, List.setIfInBounds_toArray, List.set_cons_zero, List.set_cons_succ, List.getElem_toArray, List.getElem_cons_succ, List.getElem_cons_zero]))
                                first | (refine wpAnyH_take (i := 13) (v := ?_) rfl (by kernel_rfl) (by kernel_rfl) (by kernel_rfl) (fun _ _ _ h => h) (Or.inl ⟨by rfl, ?_⟩) hK ?_; rotate_left; (focus (intro w' hSw; obtain ⟨z0, z1, z2, z3, z4, z5, z6, z7⟩ := hSw; go_simp; (try with_reducible rfl); done)); (try simp only [Act.put, List.setIfInBounds_toArray, List.set_cons_zero, List.set_cons_succ, List.getElem_toArray, List.getElem_cons_succ, List.getElem_cons_zero])) | (refine wpAnyH_take (i := 13) (v := undef) rfl (by kernel_rfl) (by kernel_rfl) (by kernel_rfl) (fun _ _ _ h => h) (Or.inr ⟨by rfl, rfl⟩) hK ?_; (try simp only [Act.put, List.setIfInBounds_toArray, List.set_cons_zero, List.set_cons_succ, List.getElem_toArray, List.getElem_cons_succ, List.getElem_cons_zero]))
                                first | (refine wpAnyH_take (i := 14) (v := ?_) rfl (by kernel_rfl) (by kernel_rfl) (by kernel_rfl) (fun _ _ _ h => h) (Or.inl ⟨by rfl, ?_⟩) hK ?_; rotate_left; (focus (intro w' hSw; obtain ⟨z0, z1, z2, z3, z4, z5, z6, z7⟩ := hSw; go_simp; (try with_reducible rfl); done)); (try simp only [Act.put, List.setIfInBounds_toArray, List.set_cons_zero, List.set_cons_succ, List.getElem_toArray, List.getElem_cons_succ, List.getElem_cons_zero])) | (refine wpAnyH_take (i := 14) (v := undef) rfl (by kernel_rfl) (by kernel_rfl) (by kernel_rfl) (fun _ _ _ h => h) (Or.inr ⟨by rfl, rfl⟩) hK ?_; (try simp only [Act.put, List.setIfInBounds_toArray, List.set_cons_zero, List.set_cons_succ, List.getElem_toArray, List.getElem_cons_succ, List.getElem_cons_zero]))
                                first | (refine wpAnyH_take (i := 15) (v := ?_) rfl (by kernel_rfl) (by kernel_rfl) (by kernel_rfl) (fun _ _ _ h => h) (Or.inl ⟨by rfl, ?_⟩) hK ?_; rotate_left; (focus (intro w' hSw; obtain ⟨z0, z1, z2, z3, z4, z5, z6, z7⟩ := hSw; go_simp; (try with_reducible rfl); done)); (try simp only [Act.put, List.setIfInBounds_toArray, List.set_cons_zero, List.set_cons_succ, List.getElem_toArray, List.getElem_cons_succ, List.getElem_cons_zero])) | (refine wpAnyH_take (i := 15) (v := undef) rfl (by kernel_rfl) (by kernel_rfl) (by kernel_rfl) (fun _ _ _ h => h) (Or.inr ⟨by rfl, rfl⟩) hK ?_; (try simp only [Act.put, List.setIfInBounds_toArray, List.set_cons_zero, List.set_cons_succ, List.getElem_toArray, List.getElem_cons_succ, List.getElem_cons_zero]))
                                first | (refine wpAnyH_take (i := 16) (v := ?_) rfl (by kernel_rfl) (by kernel_rfl) (by kernel_rfl) (fun _ _ _ h => h) (Or.inl ⟨by rfl, ?_⟩) hK ?_; rotate_left; (focus (intro w' hSw; obtain ⟨z0, z1, z2, z3, z4, z5, z6, z7⟩ := hSw; go_simp; (try with_reducible rfl); done)); (try simp only [Act.put, List.setIfInBounds_toArray, List.set_cons_zero, List.set_cons_succ, List.getElem_toArray, List.getElem_cons_succ, List.getElem_cons_zero])) | (refine wpAnyH_take (i := 16) (v := undef) rfl (by kernel_rfl) (by kernel_rfl) (by kernel_rfl) (fun _ _ _ h => h) (Or.inr ⟨by rfl, rfl⟩) hK ?_; (try simp only [Act.put, List.setIfInBounds_toArray, List.set_cons_zero, List.set_cons_succ, List.getElem_toArray, List.getElem_cons_succ, List.getElem_cons_zero]))
                                first | (refine wpAnyH_take (i := 17) (v := ?_) rfl (by kernel_rfl) (by kernel_rfl) (by kernel_rfl) (fun _ _ _ h => h) (Or.inl ⟨by rfl, ?_⟩) hK ?_; rotate_left; (focus (intro w' hSw; obtain ⟨z0, z1, z2, z3, z4, z5, z6, z7⟩ := hSw; go_simp; (try with_reducible rfl); done)); (try simp only [Act.put, List.setIfInBounds_toArray, List.set_cons_zero, List.set_cons_succ, List.getElem_toArray, List.getElem_cons_succ, List.getElem_cons_zero])) | (refine wpAnyH_take (i := 17) (v := undef) rfl (by kernel_rfl) (by kernel_rfl) (by kernel_rfl) (fun _ _ _ h => h) (Or.inr ⟨by rfl, rfl⟩) hK ?_; (try simp only [Act.put, List.setIfInBounds_toArray, List.set_cons_zero, List.set_cons_succ, List.getElem_toArray, List.getElem_cons_succ, List.getElem_cons_zero]))
                                refine wpAnyH_ready (rs := [18]) (by kernel_rfl) (by simp) (AllReadyH.cons rfl (fun K' hK' => ?_) AllReadyH.nil)
                                go_simp
                                refine (HTY.out _).mono ?_
                                rintro e w6 ⟨rfl, hbA⟩
                                (try dsimp only)
                                (try (with_reducible have hbA := below_drew' hbA))
                                have hN := hN.below hbA
                                have hIM := hIM.below hbA
                                have hown := ownsRow_below hown hbA
                                have hB := below_trans hB hbA
                                have hK : ST nb bl offl k A0 A1 A2 A3 X w6 := ST.of hN hIM HX.out hkl
                                refine hK'.out _ _ hK (fun _ => ?_)
                                clear hK' K' hbA
                                (try simp only [Act.put, List.setIfInBounds_toArray, List.set_cons_zero, List.set_cons_succ, List.getElem_toArray, List.getElem_cons_succ, List.getElem_cons_zero])
                                first | (refine wpAnyH_take (i := 19) (v := ?_) rfl (by kernel_rfl) (by kernel_rfl) (by kernel_rfl) (fun _ _ _ h => h) (Or.inl ⟨by rfl, ?_⟩) hK ?_; rotate_left; (focus (intro w' hSw; obtain ⟨z0, z1, z2, z3, z4, z5, z6, z7⟩ := hSw; go_simp; (try with_reducible rfl); done)); (try simp only [Act.put, List.setIfInBounds_toArray, List.set_cons_zero, List.set_cons_succ, List.getElem_toArray, List.getElem_cons_succ, List.getElem_cons_zero])) | (refine wpAnyH_take (i := 19) (v := undef) rfl (by kernel_rfl) (by kernel_rfl) (by kernel_rfl) (fun _ _ _ h => h) (Or.inr ⟨by rfl, rfl⟩) hK ?_; (try simp only [Act.put, List.setIfInBounds_toArray, List.set_cons_zero, List.set_cons_succ, List.getElem_toArray, List.getElem_cons_succ, List.getElem_cons_zero]))
                                refine wpAnyH_done (by kernel_rfl) (NoPanic.normal ?_) _
                                (try simp only [Act.put, List.setIfInBounds_toArray, List.set_cons_zero, List.set_cons_succ, List.getElem_toArray, List.getElem_cons_succ, List.getElem_cons_zero])
                                cases ty with
                                | false =>
                                  have HRf : Hid (rb = false) := show _ = _ from by rw [HR2.out]; rfl
                                  have HT2 : Hid (fT C X = firstT C.sp C.cl C.lo C.hi C.ss (fO C X) ((X.th + 1 - X.tl).toNat - (q + 1)) (X.tl + ((q + 1 : Nat) : Int))) := show _ = _ from by rw [HT1.out, HRf.out]; rfl
                                  have HE2 : Hid (fE C X = firstE C.sp C.cl C.lo C.hi C.ss (fO C X) ((X.th + 1 - X.tl).toNat - (q + 1)) (X.tl + ((q + 1 : Nat) : Int))) := show _ = _ from by rw [HE1.out, HRf.out]; rfl
                                  clear hK HTX HTY HR2 HE1 HT1 hN hIM
                                  go_wp2_with fail
                                  go_roundw
                                  case rel => exact ⟨q + 1, by omega, by go_num, hown, hB, HT2.out, HE2.out⟩
                                  case measure => simp [intOf]; omega
                                | true =>
                                  have HRt : Hid (rb = true) := show _ = _ from by rw [HR2.out]; rfl
                                  have HN1 := Lib.hid (HSI1.out (X.tl + q) (by rw [HE1.out, HRt.out]; rfl) (by rw [HT1.out, HRt.out]; rfl))
                                  have HAD : Hid (shAdd n k (X.tl + q) acc' = acc' ++ [((n : Int), (k : Int), X.tl + (q : Int))]) := show _ = _ from by unfold shAdd; rw [if_pos tb0]
                                  rw [HAD.out] at HN1
                                  clear hK HTX HTY HR2 HE1 HT1 hN hIM HSIE HSI1 HRB
                                  go_wp2_with (at_builtin; refine wpList_append_own _ rfl _ _ 79 rfl w2.heap.size 85 i0 _ 3 24 Tryz.underlying79 hi hz0 hz1 hz2 rfl (by decide) _ _ _ rfl (hown.alloc _) ⟨w6.heap.size, 0, none⟩ 1 1 [.int .i64 n, .int .i64 k, .int .i64 (X.tl + q)] rfl rfl ?c1 ?c2 ?c3 ?c4 ?c5 ?_)
                                  case c1 => exact World.news_of_block (cs := #[.int .i64 n, .int .i64 k, .int .i64 (X.tl + q)]) (t := 85) (fr := (0, 0)) (heap_alloc_new w6 _)
                                  case c2 => simp [Value.oneCell']
                                  case c3 => unfold maxLen; omega
                                  case c4 => omega
                                  case c5 => have := hB.size; simp; omega
                                  intro v' w7 hown' hgrow _
                                  have hB7 : Below w2.heap.size w2 w7 := (hB.alloc hB.size _).grown hgrow (by have := hB.size; simp; omega) (fun g hg => (World.ownsRow.lt hown g hg).1)
                                  clear hgrow hown hB
                                  go_wp2_with fail
                                  go_roundw
                                  case rel => exact ⟨k + 1, acc' ++ [((n : Int), (k : Int), X.tl + (q : Int))], by omega, by go_num, by simp; omega, by rw [mtc_snoc]; simpa using hown', hB7, HCC.out ▸ HN1.out⟩
                                  case measure => simp [intOf]; omega
                        · obtain rfl : q = (X.th + 1 - X.tl).toNat := by omega
                          have HN1 := Lib.hid (HSI1.out (-1) (by rw [HFE.out, Nat.sub_self]; rfl) (by rw [HFT.out, Nat.sub_self]; rfl))
                          have HAD : Hid (shAdd n k (-1) acc' = acc') := show _ = _ from by unfold shAdd; rw [if_neg (by omega)]
                          rw [HAD.out] at HN1
                          have hdt : decide (X.tl + (((X.th + 1 - X.tl).toNat : Nat) : Int) ≤ X.th) = false := decide_eq_false htt
                          clear hIM HFT HFE
                          generalize (X.th + 1 - X.tl).toNat = qq at *
                          go_wp2_with fail
                          go_roundw
                          case rel => exact ⟨k + 1, acc', by omega, by go_num, by omega, hown, hB, HCC.out ▸ HN1.out⟩
                          case measure => simp [intOf]; omega
                  · obtain rfl : k = l.length := by omega
                    have HN := Lib.hid (HSO1.out acc' (by rw [HSI.out, Nat.sub_self]; rfl))
                    have hd2 : decide ((l.length : Int) < (l.length : Int)) = false := decide_eq_false (by omega)
                    go_wp2_with fail
                    go_roundw
                    case rel => exact ⟨n + 1, acc', by omega, by go_num, by omega, hown, hB, HN.out⟩
                    case measure => simp [intOf]; omega
              · obtain rfl : n = cs.length := by omega
                have HF : Hid (shipsR l cs = (0, acc)) := show _ = _ from by rw [HR.out, HSO.out, Nat.sub_self]; rfl
                have hd2 : decide ((cs.length : Int) < (cs.length : Int)) = false := decide_eq_false (by omega)
                go_wp2_with fail
                go_ret2
                exact meets_of HF.out ⟨_, rfl, ownsRow_base hown hsz2, below_trans hB2 hBw⟩
          · have hz' : (fleetE cs != 0) = true := by simpa using hz
            have HR : Hid (shipsR l cs = (fleetE cs, [])) := show _ = _ from by unfold shipsR; rw [if_neg HLG.out, if_neg (by simp [HA.out]), if_pos hz]
            generalize fleetE cs = E at *
            clear hz
            go_wp2_with fail
            go_ret2
            exact meets_of HR.out ⟨_, rfl, NP.out _, hB2⟩
      · have HR : Hid (shipsR l cs = (7, [])) := show _ = _ from by unfold shipsR; rw [if_neg HLG.out, if_pos HS.out]
        by_cases hlt : k < l.length
        · have hd : decide ((k : Int) < (l.length : Int)) = true := decide_eq_true (by omega)
          go_wp2_with fail
          go_ret2
          exact meets_of HR.out ⟨_, rfl, NP.out _, hB⟩
        · have hd : decide ((k : Int) < (l.length : Int)) = false := decide_eq_false (by omega)
          go_wp2_with fail
          go_ret2
          exact meets_of HR.out ⟨_, rfl, NP.out _, hB⟩
end Go.Proofs.YtmglbegbijofkaaGreatDoor
