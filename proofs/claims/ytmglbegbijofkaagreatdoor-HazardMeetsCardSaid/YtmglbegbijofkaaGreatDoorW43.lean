import Derived.Test.YtmglbegbijofkaaGreatDoorW42
import Derived.Test.YtmglbegbijofkaaGreatDoorW39
set_option linter.unusedVariables false
set_option linter.unusedSimpArgs false
namespace Go.Proofs.YtmglbegbijofkaaGreatDoor
open Go.RowKit

theorem room_touch3 {sp cl lo hi t : Int} {ss : List Sight} {a b c d e f : Int} (hw : whB sp cl lo hi t ss = true) (h1 : a ≤ b) (h2 : c ≤ d) (h3 : e ≤ f) :
    roomB sp cl lo hi t ss a b c d e f = (touchB (whXL sp t ss) (whXH sp t ss) a b && touchB (whYL sp t ss) (whYH sp t ss) c d && touchB (whZL cl lo t ss) (whZH cl hi t ss) e f) := by
  unfold whB at hw
  simp only [Bool.and_eq_true, decide_eq_true_eq] at hw
  obtain ⟨⟨k1, k2⟩, k3⟩ := hw
  unfold roomB touchB
  rw [Bool.eq_iff_iff]
  simp only [Bool.and_eq_true, Bool.not_eq_true', decide_eq_false_iff_not, decide_eq_true_eq]
  omega
def SQ (nb bl offl q : Nat) (A0 A1 A2 A3 A4 A5 : Int) (X : St) (w' : World) : Prop :=
  w'.cell? ⟨nb, 0, none⟩ = some (.int .i64 A0) ∧ w'.cell? ⟨nb, 1, none⟩ = some (.int .i64 A1) ∧ w'.cell? ⟨nb, 2, none⟩ = some (.int .i64 A2) ∧ w'.cell? ⟨nb, 3, none⟩ = some (.int .i64 A3) ∧ w'.cell? ⟨nb + 1, 0, none⟩ = some (.int .i64 A4) ∧ w'.cell? ⟨nb + 1, 1, none⟩ = some (.int .i64 A5) ∧
    w'.cell? ⟨bl, offl + q * 12, none⟩ = some (.int .i64 X.xl) ∧ w'.cell? ⟨bl, offl + q * 12 + 1, none⟩ = some (.int .i64 X.xh) ∧ w'.cell? ⟨bl, offl + q * 12 + 2, none⟩ = some (.int .i64 X.yl) ∧ w'.cell? ⟨bl, offl + q * 12 + 3, none⟩ = some (.int .i64 X.yh) ∧ w'.cell? ⟨bl, offl + q * 12 + 4, none⟩ = some (.int .i64 X.zl) ∧ w'.cell? ⟨bl, offl + q * 12 + 5, none⟩ = some (.int .i64 X.zh)
theorem SQ.of {nb bl offl q : Nat} {A0 A1 A2 A3 A4 A5 : Int} {l : List St} {X : St} {c : Nat} {w' : World} (hN : cellsAt w' nb 25 #[.int .i64 A0, .int .i64 A1, .int .i64 A2, .int .i64 A3]) (hM : cellsAt w' (nb + 1) 23 #[.int .i64 A4, .int .i64 A5]) (hI : StatesAt w' (.slice (some ⟨bl, offl, none⟩) l.length c) l) (hX : stAt l q = X) (hk : q < l.length) : SQ nb bl offl q A0 A1 A2 A3 A4 A5 X w' := by
  subst hX
  obtain ⟨a', c', hac, h0 | ⟨b, off, rfl, hb, hc⟩⟩ := hI
  · omega
  · simp only [Value.slice.injEq, Option.some.injEq, Addr.mk.injEq] at hac
    obtain ⟨⟨rfl, rfl, _⟩, _, _⟩ := hac
    obtain ⟨n0, n1, n2, n3⟩ := cells4 hN
    obtain ⟨o0, o1⟩ := cells2 hM
    obtain ⟨s0, s1, s2, s3, s4, s5, _⟩ := st_cells hc hk
    exact ⟨n0, n1, n2, n3, o0, o1, s0, s1, s2, s3, s4, s5⟩
set_option maxRecDepth 100000 in
set_option maxHeartbeats 4000000 in
theorem rmeetsL_any (vs vc : Value) (l : List St) (fr : Int) (cs : List Craft) (w : World) (hs : StatesAt w vs l) (hc : CraftsAt w vc cs) (hn : l.length ≤ 9223372036854775806) (hm : cs.length ≤ 9223372036854775806) :
    Calls Tryz.prog 48 #[vs, .int .i64 fr, vc] w (MeetsPost w (meetsR l fr cs)) := by
  obtain ⟨al, cl, rfl, hx⟩ := id hs
  obtain ⟨ac, cc, rfl, hy⟩ := id hc.row
  clear hx hy
  have HL := Lib.hid hs
  have HC := Lib.hid hc
  clear hs hc
  have NP : Hid (∀ (W : World), W.ownsRow w.heap.size 85 3 (.slice none 0 0) 0 (mtc [])) := fun W => by simpa [mtc] using World.ownsRow_nil W _ _ _
  obtain ⟨i0, hi, hz0, hz1, hz2⟩ := info_parts Tryz.info85
  by_cases hlong : 3001 < l.length ∨ 12 < cs.length
  · have HR : Hid (meetsR l fr cs = (3, [])) := show _ = _ from by unfold meetsR; rw [if_pos hlong]
    have key : 3001 < l.length ∨ (l.length ≤ 3001 ∧ 12 < cs.length) := by omega
    clear hlong
    rcases key with h1 | ⟨h1, h2⟩
    all_goals
      go_enter Tryz.func48, Tryz.ntmps48
      go_wp2_with fail
      go_ret2
      exact meets_of HR.out ⟨_, rfl, NP.out _, Below.refl _ _⟩
  · have hl12 : l.length ≤ 3001 := by omega
    have hc12 : cs.length ≤ 12 := by omega
    have HLG := Lib.hid hlong
    clear hlong
    go_enter Tryz.func48, Tryz.ntmps48
    go_wp2_with fail
    go_loopw [8] (fun i wr => ∃ k : Nat, k ≤ l.length ∧ i = .int .i64 k ∧ Below w.heap.size w wr ∧ Hid (∀ j, j < k → (stAt l j).bad = false)) (fun i _ => l.length - (intOf i).toNat)
    case atStart => exact ⟨0, Nat.zero_le _, rfl, Below.refl _ _, fun j hj => by omega⟩
    case round =>
      obtain ⟨k, hk, rfl, hB, HS⟩ := hrel
      by_cases hlt : k < l.length
      · obtain ⟨a', c', hac, h0 | ⟨b, off, rfl, hb, hc⟩⟩ := HL.out.below hB
        · omega
        · simp only [Value.slice.injEq] at hac
          obtain ⟨rfl, _, rfl⟩ := hac
          obtain ⟨s0, s1, s2, s3, s4, s5, s6, s7, s8, s9, s10, s11⟩ := st_cells hc hlt
          have HG := Lib.hid (fun W => rwhole_any (stAt l k) W)
          unfold St.cs at HG
          have HIN : Hid ((stAt l k).bad = true → meetsR l fr cs = (7, [])) := fun h => by
            unfold meetsR
            rw [if_neg HLG.out, if_pos (show stAny l = true from anyB_true.2 ⟨k, hlt, h⟩)]
          have HSN : Hid ((stAt l k).bad = false → ∀ j, j < k + 1 → (stAt l j).bad = false) := fun h j hj => by
            by_cases e : j = k
            · subst e; exact h
            · exact HS.out j (by omega)
          clear hc
          cases hbb : (stAt l k).bad with
          | true =>
            have HF := Lib.hid (HIN.out hbb)
            simp only [hbb, Bool.not_true] at HG
            clear hbb HIN HSN
            go_wp2_with fail
            refine (HG.out _).mono ?_
            rintro e w2 ⟨rfl, hb2⟩
            have hB2 := below_trans hB hb2
            clear s0 s1 s2 s3 s4 s5 s6 s7 s8 s9 s10 s11
            go_wp2_with fail
            go_ret2
            exact meets_of HF.out ⟨_, rfl, NP.out _, hB2⟩
          | false =>
            have HF := Lib.hid (HSN.out hbb)
            simp only [hbb, Bool.not_false] at HG
            clear hbb HIN HSN
            go_wp2_with fail
            refine (HG.out _).mono ?_
            rintro e w2 ⟨rfl, hb2⟩
            have hB2 := below_trans hB hb2
            clear s0 s1 s2 s3 s4 s5 s6 s7 s8 s9 s10 s11
            go_wp2_with fail
            go_roundw
            case rel => exact ⟨k + 1, by omega, by go_num, hB2, HF.out⟩
            case measure => simp [intOf]; omega
      · obtain rfl : k = l.length := by omega
        have HA : Hid (stAny l = false) := show _ = _ from by
          cases h : stAny l with
          | false => rfl
          | true =>
            obtain ⟨j, hj, hb⟩ := anyB_true.1 h
            rw [HS.out j hj] at hb
            cases hb
        have HBAD := HS
        clear HS
        have HI := Lib.hid (fun W => in_any fr 0 100000 W)
        cases o1 : outB fr 0 100000 with
        | true =>
          simp only [o1, Bool.not_true] at HI
          have HF : Hid (meetsR l fr cs = (7, [])) := show _ = _ from by
            have h1 := outB_true.1 o1
            have : frB l.length fr = true := outB_true.2 (by omega)
            unfold meetsR
            rw [if_neg HLG.out, if_neg (by simp [HA.out]), if_pos this]
          clear o1
          go_wp2_with fail
          refine (HI.out _).mono ?_
          rintro e w1 ⟨rfl, rfl⟩
          go_wp2_with fail
          go_ret2
          exact meets_of HF.out ⟨_, rfl, NP.out _, hB⟩
        | false =>
          simp only [o1, Bool.not_false] at HI
          obtain ⟨r0, r1⟩ := outB_false.1 o1
          clear o1
          by_cases hl0 : 0 < l.length
          · have hd0 : decide ((0 : Int) < (l.length : Int)) = true := decide_eq_true (by omega)
            by_cases hfx : 100000 < fr + (l.length : Int) - 1
            · have HF : Hid (meetsR l fr cs = (7, [])) := show _ = _ from by
                have : frB l.length fr = true := outB_true.2 (by omega)
                unfold meetsR
                rw [if_neg HLG.out, if_neg (by simp [HA.out]), if_pos this]
              have hd1 : decide (100000 < fr + (l.length : Int) - 1) = true := decide_eq_true hfx
              go_wp2_with fail
              refine (HI.out _).mono ?_
              rintro e w1 ⟨rfl, rfl⟩
              go_wp2_with fail
              go_ret2
              exact meets_of HF.out ⟨_, rfl, NP.out _, hB⟩
            · have HFF : Hid (frB l.length fr = false) := show _ = _ from outB_false.2 (by omega)
              have hd1 : decide (100000 < fr + (l.length : Int) - 1) = false := decide_eq_false hfx
              go_wp2_with fail
              refine (HI.out _).mono ?_
              rintro e w1 ⟨rfl, rfl⟩
              go_wp2_with fail
              refine (rcrafts_any _ _ _ (HC.out.below hB) (by omega)).mono ?_
              rintro e w2 ⟨rfl, hb2⟩
              have hB2 := below_trans hB hb2
              clear hB hb2
              by_cases hz : fleetE cs = 0
              · have hz' : (fleetE cs != 0) = false := by simpa using hz
                have HR : Hid (meetsR l fr cs = mtOut l fr cs cs.length 0 []) := show _ = _ from by unfold meetsR; rw [if_neg HLG.out, if_neg (by simp [HA.out]), if_neg (by simp [HFF.out]), if_neg (by simp [hz])]
                have HOK := Lib.hid (fleetE_zero hz)
                rw [hz]
                clear hz hz'
                go_wp2_with fail
                have HL2 := Lib.hid (HL.out.below hB2)
                have HC2 := Lib.hid (HC.out.below hB2)
                have hsz2 : w.heap.size ≤ w2.heap.size := hB2.size
                clear HL HC
                go_loopw [10, 11, 12] (fun v i _ wr => ∃ (n : Nat) (acc : List (Int × Int × Int)), n ≤ cs.length ∧ i = .int .i64 n ∧ acc.length ≤ n ∧ wr.ownsRow w2.heap.size 85 3 v acc.length (mtc acc) ∧ Below w2.heap.size w2 wr ∧ Hid (mtOut l fr cs cs.length 0 [] = mtOut l fr cs (cs.length - n) n acc)) (fun _ i _ _ => cs.length - (intOf i).toNat)
                case atStart => exact ⟨0, [], Nat.zero_le _, rfl, by simp, by simpa [mtc] using World.ownsRow_nil _ _ _ _, Below.refl _ _, rfl⟩
                case round =>
                  obtain ⟨n, acc, hnn, rfl, hal, hown, hBw, HSO⟩ := hrel
                  obtain ⟨wo, rfl⟩ : ∃ wo : World, wo = wr := ⟨_, rfl⟩
                  by_cases hlt : n < cs.length
                  · have HOKn := Lib.hid (craft_ok (show crE (crAt cs n).nm.data.toList (crAt cs n).sp (crAt cs n).cl (crAt cs n).lo (crAt cs n).hi (crAt cs n).ss = 0 from HOK.out n hlt))
                    have HSN : Hid (∀ t : Int, gE l fr (crAt cs n) = 0 → gT l fr (crAt cs n) = t → mtOut l fr cs cs.length 0 [] = mtOut l fr cs (cs.length - (n + 1)) (n + 1) (mtAdd n t acc)) := fun t h1 h2 => by
                      rw [HSO.out, show cs.length - n = (cs.length - (n + 1)) + 1 by omega]
                      simp [mtOut, h1, h2]
                    have HSE : Hid (∀ e : Int, ¬ e = 0 → gE l fr (crAt cs n) = e → meetsR l fr cs = (e, [])) := fun e he h => by
                      rw [HR.out, HSO.out, show cs.length - n = (cs.length - (n + 1)) + 1 by omega]
                      simp only [mtOut, h, ne_eq, he, not_false_eq_true, if_true]
                    obtain ⟨C, HCC⟩ : ∃ C, Hid (crAt cs n = C) := ⟨_, rfl⟩
                    rw [HCC.out] at HOKn HSN HSE
                    go_wp2_with fail
                    go_loopw [10, 12] (fun v t wr => ∃ q : Nat, q ≤ l.length ∧ t = .int .i64 q ∧ wr.ownsRow w2.heap.size 85 3 v acc.length (mtc acc) ∧ Below w2.heap.size w2 wr ∧ Hid (gT l fr C = firstT C.sp C.cl C.lo C.hi C.ss (mtO l fr) (l.length - q) (fr + q)) ∧ Hid (gE l fr C = firstE C.sp C.cl C.lo C.hi C.ss (mtO l fr) (l.length - q) (fr + q))) (fun _ t _ => l.length - (intOf t).toNat)
                    case atStart => exact ⟨0, Nat.zero_le _, rfl, hown, hBw, by simp [Hid, gT], by simp [Hid, gE]⟩
                    case round =>
                      obtain ⟨q, hq, rfl, hown, hB, HFT, HFE⟩ := hrel
                      by_cases hkl : q < l.length
                      · have hv2 := HC2.out.below hB
                        obtain ⟨ac', cc', hac, h0 | ⟨bc, offc, rfl, hbc, hcc⟩⟩ := hv2.row
                        · omega
                        · simp only [Value.slice.injEq] at hac
                          obtain ⟨rfl, _, rfl⟩ := hac
                          obtain ⟨c0, c1, c2, c3, c4, c5⟩ := craft_cells hcc hlt
                          have hsg := hv2.at_ n hlt
                          rw [HCC.out] at c0 c1 c2 c3 c4 c5 hsg
                          have hbd := HBAD.out q hkl
                          obtain ⟨X, HX⟩ : ∃ X, Hid (stAt l q = X) := ⟨_, rfl⟩
                          rw [HX.out] at hbd
                          rw [X.bad_eq] at hbd
                          simp only [Bool.or_eq_false_iff, decide_eq_false_iff_not] at hbd
                          have HW := Lib.hid (rwhere_any C.nm C.sp C.cl C.lo C.hi C.v C.ss (fr + q) wr hsg (by omega) (by omega) HOKn.out.s0 HOKn.out.s1 HOKn.out.c0 HOKn.out.c1 HOKn.out.n0 HOKn.out.n1 HOKn.out.sg)
                          have HOQ : Hid (mtO l fr (fr + q) = (X.xl, X.xh, X.yl, X.yh, X.zl, X.zh)) := show _ = _ from by unfold mtO; rw [show (fr + (q : Int) - fr).toNat = q by omega, HX.out]
                          have HT1 : Hid (gT l fr C = if !whB C.sp C.cl C.lo C.hi (fr + q) C.ss then 0 else if roomB C.sp C.cl C.lo C.hi (fr + q) C.ss X.xl X.xh X.yl X.yh X.zl X.zh then fr + q else firstT C.sp C.cl C.lo C.hi C.ss (mtO l fr) (l.length - (q + 1)) (fr + q + 1)) := show _ = _ from by rw [HFT.out, show l.length - q = (l.length - (q + 1)) + 1 by omega]; simp only [firstT, HOQ.out]
                          have HE1 : Hid (gE l fr C = if !whB C.sp C.cl C.lo C.hi (fr + q) C.ss then 9 else if roomB C.sp C.cl C.lo C.hi (fr + q) C.ss X.xl X.xh X.yl X.yh X.zl X.zh then 0 else firstE C.sp C.cl C.lo C.hi C.ss (mtO l fr) (l.length - (q + 1)) (fr + q + 1)) := show _ = _ from by rw [HFE.out, show l.length - q = (l.length - (q + 1)) + 1 by omega]; simp only [firstE, HOQ.out]
                          have HR1 : Hid (whB C.sp C.cl C.lo C.hi (fr + q) C.ss = true → roomB C.sp C.cl C.lo C.hi (fr + q) C.ss X.xl X.xh X.yl X.yh X.zl X.zh = (touchB (whXL C.sp (fr + q) C.ss) (whXH C.sp (fr + q) C.ss) X.xl X.xh && touchB (whYL C.sp (fr + q) C.ss) (whYH C.sp (fr + q) C.ss) X.yl X.yh && touchB (whZL C.cl C.lo (fr + q) C.ss) (whZH C.cl C.hi (fr + q) C.ss) X.zl X.zh)) := fun h => room_touch3 h (by omega) (by omega) (by omega)
                          have ekq : fr + (q : Int) + 1 = fr + ((q + 1 : Nat) : Int) := by omega
                          rw [ekq] at HT1 HE1
                          have tb0 : 0 ≤ fr + (q : Int) := by omega
                          unfold RWhereEnd at HW
                          clear hcc hv2 hsg ekq HFT HFE HOQ hbd
                          generalize whXL C.sp (fr + q) C.ss = A0 at *
                          generalize whXH C.sp (fr + q) C.ss = A1 at *
                          generalize whYL C.sp (fr + q) C.ss = A2 at *
                          generalize whYH C.sp (fr + q) C.ss = A3 at *
                          generalize whZL C.cl C.lo (fr + q) C.ss = A4 at *
                          generalize whZH C.cl C.hi (fr + q) C.ss = A5 at *
                          generalize roomB C.sp C.cl C.lo C.hi (fr + q) C.ss X.xl X.xh X.yl X.yh X.zl X.zh = rb at *
                          generalize whB C.sp C.cl C.lo C.hi (fr + q) C.ss = wb at *
                          go_wp2_with fail
                          refine HW.out.mono ?_
                          rintro e w3 ⟨rfl, hb3⟩
                          obtain ⟨hN, hM, hzz, hbN⟩ := alloc2 w3 #[.int .i64 A0, .int .i64 A1, .int .i64 A2, .int .i64 A3] #[.int .i64 A4, .int .i64 A5] 25 23
                          have hB := below_trans (below_trans hB hb3) hbN
                          have hown := ownsRow_below (ownsRow_below hown hb3) hbN
                          clear hzz hb3 hbN c0 c1 c2 c3 c4 c5
                          cases wb with
                          | false =>
                            have HF := Lib.hid (HSE.out 9 (by omega) (by rw [HE1.out]; rfl))
                            go_wp2_with fail
                            go_ret2
                            exact meets_of HF.out ⟨_, rfl, NP.out _, below_trans hB2 hB⟩
                          | true =>
                            have HR2 := Lib.hid (HR1.out rfl)
                            clear HR1
                            go_wp2_with fail
                            generalize (w3.alloc (.cells #[.int .i64 A0, .int .i64 A1, .int .i64 A2, .int .i64 A3] 25)).alloc (.cells #[.int .i64 A4, .int .i64 A5] 23) = W4 at *
                            generalize w3.heap.size = nb at *
                            have hIM := HL2.out.below hB
                            obtain ⟨bl, offl, hal2⟩ : ∃ bl offl, al = some ⟨bl, offl, none⟩ := by
                              obtain ⟨a1, c1, hac, h0 | ⟨b1, o1, rfl, _, _⟩⟩ := id hIM
                              · omega
                              · simp only [Value.slice.injEq] at hac
                                exact ⟨b1, o1, hac.1⟩
                            subst hal2
                            have i1 : (0 : Int) ≤ (q : Int) := by omega
                            have i2 : (q : Int) < (l.length : Int) := by omega
                            have hK : SQ nb bl offl q A0 A1 A2 A3 A4 A5 X W4.drew := SQ.of hN.drew hM.drew (hIM.below (Below.refl _ _).drew) HX.out hkl
                            have HTX := Lib.hid (fun W => rtouch_any A0 A1 X.xl X.xh W)
                            have HTY := Lib.hid (fun W => rtouch_any A2 A3 X.yl X.yh W)
                            have HTZ := Lib.hid (fun W => rtouch_any A4 A5 X.zl X.zh W)
                            generalize touchB A0 A1 X.xl X.xh = tx at *
                            generalize touchB A2 A3 X.yl X.yh = ty at *
                            generalize touchB A4 A5 X.zl X.zh = tz at *
                            refine wp_region_noPanic ?_
                            refine wp_region_held_drew (S := SQ nb bl offl q A0 A1 A2 A3 A4 A5 X) (by kernel_rfl) hK (fun _ => ?_)
                            first | (refine wpAnyH_take (i := 0) (v := ?_) rfl (by kernel_rfl) (by kernel_rfl) (by kernel_rfl) (fun _ _ _ h => h) (Or.inl ⟨by rfl, ?_⟩) hK ?_; rotate_left; (focus (intro w' hSw; obtain ⟨z0, z1, z2, z3, z4, z5, z6, z7, z8, z9, z10, z11⟩ := hSw; go_simp; (try with_reducible rfl); done)); (try simp only [Act.put, List.setIfInBounds_toArray, List.set_cons_zero, List.set_cons_succ, List.getElem_toArray, List.getElem_cons_succ, List.getElem_cons_zero])) | (refine wpAnyH_take (i := 0) (v := undef) rfl (by kernel_rfl) (by kernel_rfl) (by kernel_rfl) (fun _ _ _ h => h) (Or.inr ⟨by rfl, rfl⟩) hK ?_; (try simp only [Act.put, List.setIfInBounds_toArray, List.set_cons_zero, List.set_cons_succ, List.getElem_toArray, List.getElem_cons_succ, List.getElem_cons_zero]))
                            first | (refine wpAnyH_take (i := 1) (v := ?_) rfl (by kernel_rfl) (by kernel_rfl) (by kernel_rfl) (fun _ _ _ h => h) (Or.inl ⟨by rfl, ?_⟩) hK ?_; rotate_left; (focus (intro w' hSw; obtain ⟨z0, z1, z2, z3, z4, z5, z6, z7, z8, z9, z10, z11⟩ := hSw; go_simp; (try with_reducible rfl); done)); (try simp only [Act.put, List.setIfInBounds_toArray, List.set_cons_zero, List.set_cons_succ, List.getElem_toArray, List.getElem_cons_succ, List.getElem_cons_zero])) | (refine wpAnyH_take (i := 1) (v := undef) rfl (by kernel_rfl) (by kernel_rfl) (by kernel_rfl) (fun _ _ _ h => h) (Or.inr ⟨by rfl, rfl⟩) hK ?_; (try simp only [Act.put, List.setIfInBounds_toArray, List.set_cons_zero, List.set_cons_succ, List.getElem_toArray, List.getElem_cons_succ, List.getElem_cons_zero]))
                            first | (refine wpAnyH_take (i := 2) (v := ?_) rfl (by kernel_rfl) (by kernel_rfl) (by kernel_rfl) (fun _ _ _ h => h) (Or.inl ⟨by rfl, ?_⟩) hK ?_; rotate_left; (focus (intro w' hSw; obtain ⟨z0, z1, z2, z3, z4, z5, z6, z7, z8, z9, z10, z11⟩ := hSw; go_simp; (try with_reducible rfl); done)); (try simp only [Act.put, List.setIfInBounds_toArray, List.set_cons_zero, List.set_cons_succ, List.getElem_toArray, List.getElem_cons_succ, List.getElem_cons_zero])) | (refine wpAnyH_take (i := 2) (v := undef) rfl (by kernel_rfl) (by kernel_rfl) (by kernel_rfl) (fun _ _ _ h => h) (Or.inr ⟨by rfl, rfl⟩) hK ?_; (try simp only [Act.put, List.setIfInBounds_toArray, List.set_cons_zero, List.set_cons_succ, List.getElem_toArray, List.getElem_cons_succ, List.getElem_cons_zero]))
                            first | (refine wpAnyH_take (i := 3) (v := ?_) rfl (by kernel_rfl) (by kernel_rfl) (by kernel_rfl) (fun _ _ _ h => h) (Or.inl ⟨by rfl, ?_⟩) hK ?_; rotate_left; (focus (intro w' hSw; obtain ⟨z0, z1, z2, z3, z4, z5, z6, z7, z8, z9, z10, z11⟩ := hSw; go_simp; (try with_reducible rfl); done)); (try simp only [Act.put, List.setIfInBounds_toArray, List.set_cons_zero, List.set_cons_succ, List.getElem_toArray, List.getElem_cons_succ, List.getElem_cons_zero])) | (refine wpAnyH_take (i := 3) (v := undef) rfl (by kernel_rfl) (by kernel_rfl) (by kernel_rfl) (fun _ _ _ h => h) (Or.inr ⟨by rfl, rfl⟩) hK ?_; (try simp only [Act.put, List.setIfInBounds_toArray, List.set_cons_zero, List.set_cons_succ, List.getElem_toArray, List.getElem_cons_succ, List.getElem_cons_zero]))
                            first | (refine wpAnyH_take (i := 4) (v := ?_) rfl (by kernel_rfl) (by kernel_rfl) (by kernel_rfl) (fun _ _ _ h => h) (Or.inl ⟨by rfl, ?_⟩) hK ?_; rotate_left; (focus (intro w' hSw; obtain ⟨z0, z1, z2, z3, z4, z5, z6, z7, z8, z9, z10, z11⟩ := hSw; go_simp; (try with_reducible rfl); done)); (try simp only [Act.put, List.setIfInBounds_toArray, List.set_cons_zero, List.set_cons_succ, List.getElem_toArray, List.getElem_cons_succ, List.getElem_cons_zero])) | (refine wpAnyH_take (i := 4) (v := undef) rfl (by kernel_rfl) (by kernel_rfl) (by kernel_rfl) (fun _ _ _ h => h) (Or.inr ⟨by rfl, rfl⟩) hK ?_; (try simp only [Act.put, List.setIfInBounds_toArray, List.set_cons_zero, List.set_cons_succ, List.getElem_toArray, List.getElem_cons_succ, List.getElem_cons_zero]))
                            first | (refine wpAnyH_take (i := 5) (v := ?_) rfl (by kernel_rfl) (by kernel_rfl) (by kernel_rfl) (fun _ _ _ h => h) (Or.inl ⟨by rfl, ?_⟩) hK ?_; rotate_left; (focus (intro w' hSw; obtain ⟨z0, z1, z2, z3, z4, z5, z6, z7, z8, z9, z10, z11⟩ := hSw; go_simp; (try with_reducible rfl); done)); (try simp only [Act.put, List.setIfInBounds_toArray, List.set_cons_zero, List.set_cons_succ, List.getElem_toArray, List.getElem_cons_succ, List.getElem_cons_zero])) | (refine wpAnyH_take (i := 5) (v := undef) rfl (by kernel_rfl) (by kernel_rfl) (by kernel_rfl) (fun _ _ _ h => h) (Or.inr ⟨by rfl, rfl⟩) hK ?_; (try simp only [Act.put, List.setIfInBounds_toArray, List.set_cons_zero, List.set_cons_succ, List.getElem_toArray, List.getElem_cons_succ, List.getElem_cons_zero]))
                            first | (refine wpAnyH_take (i := 6) (v := ?_) rfl (by kernel_rfl) (by kernel_rfl) (by kernel_rfl) (fun _ _ _ h => h) (Or.inl ⟨by rfl, ?_⟩) hK ?_; rotate_left; (focus (intro w' hSw; obtain ⟨z0, z1, z2, z3, z4, z5, z6, z7, z8, z9, z10, z11⟩ := hSw; go_simp; (try with_reducible rfl); done)); (try simp only [Act.put, List.setIfInBounds_toArray, List.set_cons_zero, List.set_cons_succ, List.getElem_toArray, List.getElem_cons_succ, List.getElem_cons_zero])) | (refine wpAnyH_take (i := 6) (v := undef) rfl (by kernel_rfl) (by kernel_rfl) (by kernel_rfl) (fun _ _ _ h => h) (Or.inr ⟨by rfl, rfl⟩) hK ?_; (try simp only [Act.put, List.setIfInBounds_toArray, List.set_cons_zero, List.set_cons_succ, List.getElem_toArray, List.getElem_cons_succ, List.getElem_cons_zero]))
                            refine wpAnyH_ready (rs := [7]) (by kernel_rfl) (by simp) (AllReadyH.cons rfl (fun K' hK' => ?_) AllReadyH.nil)
                            go_simp
                            refine (HTX.out _).mono ?_
                            rintro e w5 ⟨rfl, hbA⟩
                            (try dsimp only)
                            (try (with_reducible have hbA := below_drew' hbA))
                            have hN := hN.below hbA
                            have hM := hM.below hbA
                            have hIM := hIM.below hbA
                            have hown := ownsRow_below hown hbA
                            have hB := below_trans hB hbA
                            have hK : SQ nb bl offl q A0 A1 A2 A3 A4 A5 X w5 := SQ.of hN hM hIM HX.out hkl
                            refine hK'.out _ _ hK (fun _ => ?_)
                            clear hK' K' hbA
                            (try simp only [Act.put, List.setIfInBounds_toArray, List.set_cons_zero, List.set_cons_succ, List.getElem_toArray, List.getElem_cons_succ, List.getElem_cons_zero])
                            cases tx with
                            | false =>
                              first | (refine wpAnyH_take (i := 8) (v := ?_) rfl (by kernel_rfl) (by kernel_rfl) (by kernel_rfl) (fun _ _ _ h => h) (Or.inl ⟨by rfl, ?_⟩) hK ?_; rotate_left; (focus (intro w' hSw; obtain ⟨z0, z1, z2, z3, z4, z5, z6, z7, z8, z9, z10, z11⟩ := hSw; go_simp; (try with_reducible rfl); done)); (try simp only [Act.put, List.setIfInBounds_toArray, List.set_cons_zero, List.set_cons_succ, List.getElem_toArray, List.getElem_cons_succ, List.getElem_cons_zero])) | (refine wpAnyH_take (i := 8) (v := undef) rfl (by kernel_rfl) (by kernel_rfl) (by kernel_rfl) (fun _ _ _ h => h) (Or.inr ⟨by rfl, rfl⟩) hK ?_; (try simp only [Act.put, List.setIfInBounds_toArray, List.set_cons_zero, List.set_cons_succ, List.getElem_toArray, List.getElem_cons_succ, List.getElem_cons_zero]))
                              first | (refine wpAnyH_take (i := 9) (v := ?_) rfl (by kernel_rfl) (by kernel_rfl) (by kernel_rfl) (fun _ _ _ h => h) (Or.inl ⟨by rfl, ?_⟩) hK ?_; rotate_left; (focus (intro w' hSw; obtain ⟨z0, z1, z2, z3, z4, z5, z6, z7, z8, z9, z10, z11⟩ := hSw; go_simp; (try with_reducible rfl); done)); (try simp only [Act.put, List.setIfInBounds_toArray, List.set_cons_zero, List.set_cons_succ, List.getElem_toArray, List.getElem_cons_succ, List.getElem_cons_zero])) | (refine wpAnyH_take (i := 9) (v := undef) rfl (by kernel_rfl) (by kernel_rfl) (by kernel_rfl) (fun _ _ _ h => h) (Or.inr ⟨by rfl, rfl⟩) hK ?_; (try simp only [Act.put, List.setIfInBounds_toArray, List.set_cons_zero, List.set_cons_succ, List.getElem_toArray, List.getElem_cons_succ, List.getElem_cons_zero]))
                              first | (refine wpAnyH_take (i := 10) (v := ?_) rfl (by kernel_rfl) (by kernel_rfl) (by kernel_rfl) (fun _ _ _ h => h) (Or.inl ⟨by rfl, ?_⟩) hK ?_; rotate_left; (focus (intro w' hSw; obtain ⟨z0, z1, z2, z3, z4, z5, z6, z7, z8, z9, z10, z11⟩ := hSw; go_simp; (try with_reducible rfl); done)); (try simp only [Act.put, List.setIfInBounds_toArray, List.set_cons_zero, List.set_cons_succ, List.getElem_toArray, List.getElem_cons_succ, List.getElem_cons_zero])) | (refine wpAnyH_take (i := 10) (v := undef) rfl (by kernel_rfl) (by kernel_rfl) (by kernel_rfl) (fun _ _ _ h => h) (Or.inr ⟨by rfl, rfl⟩) hK ?_; (try simp only [Act.put, List.setIfInBounds_toArray, List.set_cons_zero, List.set_cons_succ, List.getElem_toArray, List.getElem_cons_succ, List.getElem_cons_zero]))
                              first | (refine wpAnyH_take (i := 11) (v := ?_) rfl (by kernel_rfl) (by kernel_rfl) (by kernel_rfl) (fun _ _ _ h => h) (Or.inl ⟨by rfl, ?_⟩) hK ?_; rotate_left; (focus (intro w' hSw; obtain ⟨z0, z1, z2, z3, z4, z5, z6, z7, z8, z9, z10, z11⟩ := hSw; go_simp; (try with_reducible rfl); done)); (try simp only [Act.put, List.setIfInBounds_toArray, List.set_cons_zero, List.set_cons_succ, List.getElem_toArray, List.getElem_cons_succ, List.getElem_cons_zero])) | (refine wpAnyH_take (i := 11) (v := undef) rfl (by kernel_rfl) (by kernel_rfl) (by kernel_rfl) (fun _ _ _ h => h) (Or.inr ⟨by rfl, rfl⟩) hK ?_; (try simp only [Act.put, List.setIfInBounds_toArray, List.set_cons_zero, List.set_cons_succ, List.getElem_toArray, List.getElem_cons_succ, List.getElem_cons_zero]))
                              first | (refine wpAnyH_take (i := 12) (v := ?_) rfl (by kernel_rfl) (by kernel_rfl) (by kernel_rfl) (fun _ _ _ h => h) (Or.inl ⟨by rfl, ?_⟩) hK ?_; rotate_left; (focus (intro w' hSw; obtain ⟨z0, z1, z2, z3, z4, z5, z6, z7, z8, z9, z10, z11⟩ := hSw; go_simp; (try with_reducible rfl); done)); (try simp only [Act.put, List.setIfInBounds_toArray, List.set_cons_zero, List.set_cons_succ, List.getElem_toArray, List.getElem_cons_succ, List.getElem_cons_zero])) | (refine wpAnyH_take (i := 12) (v := undef) rfl (by kernel_rfl) (by kernel_rfl) (by kernel_rfl) (fun _ _ _ h => h) (Or.inr ⟨by rfl, rfl⟩) hK ?_; (try simp only [Act.put, List.setIfInBounds_toArray, List.set_cons_zero, List.set_cons_succ, List.getElem_toArray, List.getElem_cons_succ, List.getElem_cons_zero]))
                              first | (refine wpAnyH_take (i := 13) (v := ?_) rfl (by kernel_rfl) (by kernel_rfl) (by kernel_rfl) (fun _ _ _ h => h) (Or.inl ⟨by rfl, ?_⟩) hK ?_; rotate_left; (focus (intro w' hSw; obtain ⟨z0, z1, z2, z3, z4, z5, z6, z7, z8, z9, z10, z11⟩ := hSw; go_simp; (try with_reducible rfl); done)); (try simp only [Act.put, List.setIfInBounds_toArray, List.set_cons_zero, List.set_cons_succ, List.getElem_toArray, List.getElem_cons_succ, List.getElem_cons_zero])) | (refine wpAnyH_take (i := 13) (v := undef) rfl (by kernel_rfl) (by kernel_rfl) (by kernel_rfl) (fun _ _ _ h => h) (Or.inr ⟨by rfl, rfl⟩) hK ?_; (try simp only [Act.put, List.setIfInBounds_toArray, List.set_cons_zero, List.set_cons_succ, List.getElem_toArray, List.getElem_cons_succ, List.getElem_cons_zero]))
                              first | (refine wpAnyH_take (i := 14) (v := ?_) rfl (by kernel_rfl) (by kernel_rfl) (by kernel_rfl) (fun _ _ _ h => h) (Or.inl ⟨by rfl, ?_⟩) hK ?_; rotate_left; (focus (intro w' hSw; obtain ⟨z0, z1, z2, z3, z4, z5, z6, z7, z8, z9, z10, z11⟩ := hSw; go_simp; (try with_reducible rfl); done)); (try simp only [Act.put, List.setIfInBounds_toArray, List.set_cons_zero, List.set_cons_succ, List.getElem_toArray, List.getElem_cons_succ, List.getElem_cons_zero])) | (refine wpAnyH_take (i := 14) (v := undef) rfl (by kernel_rfl) (by kernel_rfl) (by kernel_rfl) (fun _ _ _ h => h) (Or.inr ⟨by rfl, rfl⟩) hK ?_; (try simp only [Act.put, List.setIfInBounds_toArray, List.set_cons_zero, List.set_cons_succ, List.getElem_toArray, List.getElem_cons_succ, List.getElem_cons_zero]))
                              first | (refine wpAnyH_take (i := 15) (v := ?_) rfl (by kernel_rfl) (by kernel_rfl) (by kernel_rfl) (fun _ _ _ h => h) (Or.inl ⟨by rfl, ?_⟩) hK ?_; rotate_left; (focus (intro w' hSw; obtain ⟨z0, z1, z2, z3, z4, z5, z6, z7, z8, z9, z10, z11⟩ := hSw; go_simp; (try with_reducible rfl); done)); (try simp only [Act.put, List.setIfInBounds_toArray, List.set_cons_zero, List.set_cons_succ, List.getElem_toArray, List.getElem_cons_succ, List.getElem_cons_zero])) | (refine wpAnyH_take (i := 15) (v := undef) rfl (by kernel_rfl) (by kernel_rfl) (by kernel_rfl) (fun _ _ _ h => h) (Or.inr ⟨by rfl, rfl⟩) hK ?_; (try simp only [Act.put, List.setIfInBounds_toArray, List.set_cons_zero, List.set_cons_succ, List.getElem_toArray, List.getElem_cons_succ, List.getElem_cons_zero]))
                              first | (refine wpAnyH_take (i := 16) (v := ?_) rfl (by kernel_rfl) (by kernel_rfl) (by kernel_rfl) (fun _ _ _ h => h) (Or.inl ⟨by rfl, ?_⟩) hK ?_; rotate_left; (focus (intro w' hSw; obtain ⟨z0, z1, z2, z3, z4, z5, z6, z7, z8, z9, z10, z11⟩ := hSw; go_simp; (try with_reducible rfl); done)); (try simp only [Act.put, List.setIfInBounds_toArray, List.set_cons_zero, List.set_cons_succ, List.getElem_toArray, List.getElem_cons_succ, List.getElem_cons_zero])) | (refine wpAnyH_take (i := 16) (v := undef) rfl (by kernel_rfl) (by kernel_rfl) (by kernel_rfl) (fun _ _ _ h => h) (Or.inr ⟨by rfl, rfl⟩) hK ?_; (try simp only [Act.put, List.setIfInBounds_toArray, List.set_cons_zero, List.set_cons_succ, List.getElem_toArray, List.getElem_cons_succ, List.getElem_cons_zero]))
                              first | (refine wpAnyH_take (i := 17) (v := ?_) rfl (by kernel_rfl) (by kernel_rfl) (by kernel_rfl) (fun _ _ _ h => h) (Or.inl ⟨by rfl, ?_⟩) hK ?_; rotate_left; (focus (intro w' hSw; obtain ⟨z0, z1, z2, z3, z4, z5, z6, z7, z8, z9, z10, z11⟩ := hSw; go_simp; (try with_reducible rfl); done)); (try simp only [Act.put, List.setIfInBounds_toArray, List.set_cons_zero, List.set_cons_succ, List.getElem_toArray, List.getElem_cons_succ, List.getElem_cons_zero])) | (refine wpAnyH_take (i := 17) (v := undef) rfl (by kernel_rfl) (by kernel_rfl) (by kernel_rfl) (fun _ _ _ h => h) (Or.inr ⟨by rfl, rfl⟩) hK ?_; (try simp only [Act.put, List.setIfInBounds_toArray, List.set_cons_zero, List.set_cons_succ, List.getElem_toArray, List.getElem_cons_succ, List.getElem_cons_zero]))
                              first | (refine wpAnyH_take (i := 18) (v := ?_) rfl (by kernel_rfl) (by kernel_rfl) (by kernel_rfl) (fun _ _ _ h => h) (Or.inl ⟨by rfl, ?_⟩) hK ?_; rotate_left; (focus (intro w' hSw; obtain ⟨z0, z1, z2, z3, z4, z5, z6, z7, z8, z9, z10, z11⟩ := hSw; go_simp; (try with_reducible rfl); done)); (try simp only [Act.put, List.setIfInBounds_toArray, List.set_cons_zero, List.set_cons_succ, List.getElem_toArray, List.getElem_cons_succ, List.getElem_cons_zero])) | (refine wpAnyH_take (i := 18) (v := undef) rfl (by kernel_rfl) (by kernel_rfl) (by kernel_rfl) (fun _ _ _ h => h) (Or.inr ⟨by rfl, rfl⟩) hK ?_; (try simp only [Act.put, List.setIfInBounds_toArray, List.set_cons_zero, List.set_cons_succ, List.getElem_toArray, List.getElem_cons_succ, List.getElem_cons_zero]))
                              first | (refine wpAnyH_take (i := 19) (v := ?_) rfl (by kernel_rfl) (by kernel_rfl) (by kernel_rfl) (fun _ _ _ h => h) (Or.inl ⟨by rfl, ?_⟩) hK ?_; rotate_left; (focus (intro w' hSw; obtain ⟨z0, z1, z2, z3, z4, z5, z6, z7, z8, z9, z10, z11⟩ := hSw; go_simp; (try with_reducible rfl); done)); (try simp only [Act.put, List.setIfInBounds_toArray, List.set_cons_zero, List.set_cons_succ, List.getElem_toArray, List.getElem_cons_succ, List.getElem_cons_zero])) | (refine wpAnyH_take (i := 19) (v := undef) rfl (by kernel_rfl) (by kernel_rfl) (by kernel_rfl) (fun _ _ _ h => h) (Or.inr ⟨by rfl, rfl⟩) hK ?_; (try simp only [Act.put, List.setIfInBounds_toArray, List.set_cons_zero, List.set_cons_succ, List.getElem_toArray, List.getElem_cons_succ, List.getElem_cons_zero]))
                              first | (refine wpAnyH_take (i := 20) (v := ?_) rfl (by kernel_rfl) (by kernel_rfl) (by kernel_rfl) (fun _ _ _ h => h) (Or.inl ⟨by rfl, ?_⟩) hK ?_; rotate_left; (focus (intro w' hSw; obtain ⟨z0, z1, z2, z3, z4, z5, z6, z7, z8, z9, z10, z11⟩ := hSw; go_simp; (try with_reducible rfl); done)); (try simp only [Act.put, List.setIfInBounds_toArray, List.set_cons_zero, List.set_cons_succ, List.getElem_toArray, List.getElem_cons_succ, List.getElem_cons_zero])) | (refine wpAnyH_take (i := 20) (v := undef) rfl (by kernel_rfl) (by kernel_rfl) (by kernel_rfl) (fun _ _ _ h => h) (Or.inr ⟨by rfl, rfl⟩) hK ?_; (try simp only [Act.put, List.setIfInBounds_toArray, List.set_cons_zero, List.set_cons_succ, List.getElem_toArray, List.getElem_cons_succ, List.getElem_cons_zero]))
                              first | (refine wpAnyH_take (i := 21) (v := ?_) rfl (by kernel_rfl) (by kernel_rfl) (by kernel_rfl) (fun _ _ _ h => h) (Or.inl ⟨by rfl, ?_⟩) hK ?_; rotate_left; (focus (intro w' hSw; obtain ⟨z0, z1, z2, z3, z4, z5, z6, z7, z8, z9, z10, z11⟩ := hSw; go_simp; (try with_reducible rfl); done)); (try simp only [Act.put, List.setIfInBounds_toArray, List.set_cons_zero, List.set_cons_succ, List.getElem_toArray, List.getElem_cons_succ, List.getElem_cons_zero])) | (refine wpAnyH_take (i := 21) (v := undef) rfl (by kernel_rfl) (by kernel_rfl) (by kernel_rfl) (fun _ _ _ h => h) (Or.inr ⟨by rfl, rfl⟩) hK ?_; (try simp only [Act.put, List.setIfInBounds_toArray, List.set_cons_zero, List.set_cons_succ, List.getElem_toArray, List.getElem_cons_succ, List.getElem_cons_zero]))
                              first | (refine wpAnyH_take (i := 22) (v := ?_) rfl (by kernel_rfl) (by kernel_rfl) (by kernel_rfl) (fun _ _ _ h => h) (Or.inl ⟨by rfl, ?_⟩) hK ?_; rotate_left; (focus (intro w' hSw; obtain ⟨z0, z1, z2, z3, z4, z5, z6, z7, z8, z9, z10, z11⟩ := hSw; go_simp; (try with_reducible rfl); done)); (try simp only [Act.put, List.setIfInBounds_toArray, List.set_cons_zero, List.set_cons_succ, List.getElem_toArray, List.getElem_cons_succ, List.getElem_cons_zero])) | (refine wpAnyH_take (i := 22) (v := undef) rfl (by kernel_rfl) (by kernel_rfl) (by kernel_rfl) (fun _ _ _ h => h) (Or.inr ⟨by rfl, rfl⟩) hK ?_; (try simp only [Act.put, List.setIfInBounds_toArray, List.set_cons_zero, List.set_cons_succ, List.getElem_toArray, List.getElem_cons_succ, List.getElem_cons_zero]))
                              first | (refine wpAnyH_take (i := 23) (v := ?_) rfl (by kernel_rfl) (by kernel_rfl) (by kernel_rfl) (fun _ _ _ h => h) (Or.inl ⟨by rfl, ?_⟩) hK ?_; rotate_left; (focus (intro w' hSw; obtain ⟨z0, z1, z2, z3, z4, z5, z6, z7, z8, z9, z10, z11⟩ := hSw; go_simp; (try with_reducible rfl); done)); (try simp only [Act.put, List.setIfInBounds_toArray, List.set_cons_zero, List.set_cons_succ, List.getElem_toArray, List.getElem_cons_succ, List.getElem_cons_zero])) | (refine wpAnyH_take (i := 23) (v := undef) rfl (by kernel_rfl) (by kernel_rfl) (by kernel_rfl) (fun _ _ _ h => h) (Or.inr ⟨by rfl, rfl⟩) hK ?_; (try simp only [Act.put, List.setIfInBounds_toArray, List.set_cons_zero, List.set_cons_succ, List.getElem_toArray, List.getElem_cons_succ, List.getElem_cons_zero]))
                              first | (refine wpAnyH_take (i := 24) (v := ?_) rfl (by kernel_rfl) (by kernel_rfl) (by kernel_rfl) (fun _ _ _ h => h) (Or.inl ⟨by rfl, ?_⟩) hK ?_; rotate_left; (focus (intro w' hSw; obtain ⟨z0, z1, z2, z3, z4, z5, z6, z7, z8, z9, z10, z11⟩ := hSw; go_simp; (try with_reducible rfl); done)); (try simp only [Act.put, List.setIfInBounds_toArray, List.set_cons_zero, List.set_cons_succ, List.getElem_toArray, List.getElem_cons_succ, List.getElem_cons_zero])) | (refine wpAnyH_take (i := 24) (v := undef) rfl (by kernel_rfl) (by kernel_rfl) (by kernel_rfl) (fun _ _ _ h => h) (Or.inr ⟨by rfl, rfl⟩) hK ?_; (try simp only [Act.put, List.setIfInBounds_toArray, List.set_cons_zero, List.set_cons_succ, List.getElem_toArray, List.getElem_cons_succ, List.getElem_cons_zero]))
                              first | (refine wpAnyH_take (i := 25) (v := ?_) rfl (by kernel_rfl) (by kernel_rfl) (by kernel_rfl) (fun _ _ _ h => h) (Or.inl ⟨by rfl, ?_⟩) hK ?_; rotate_left; (focus (intro w' hSw; obtain ⟨z0, z1, z2, z3, z4, z5, z6, z7, z8, z9, z10, z11⟩ := hSw; go_simp; (try with_reducible rfl); done)); (try simp only [Act.put, List.setIfInBounds_toArray, List.set_cons_zero, List.set_cons_succ, List.getElem_toArray, List.getElem_cons_succ, List.getElem_cons_zero])) | (refine wpAnyH_take (i := 25) (v := undef) rfl (by kernel_rfl) (by kernel_rfl) (by kernel_rfl) (fun _ _ _ h => h) (Or.inr ⟨by rfl, rfl⟩) hK ?_; (try simp only [Act.put, List.setIfInBounds_toArray, List.set_cons_zero, List.set_cons_succ, List.getElem_toArray, List.getElem_cons_succ, List.getElem_cons_zero]))
                              first | (refine wpAnyH_take (i := 26) (v := ?_) rfl (by kernel_rfl) (by kernel_rfl) (by kernel_rfl) (fun _ _ _ h => h) (Or.inl ⟨by rfl, ?_⟩) hK ?_; rotate_left; (focus (intro w' hSw; obtain ⟨z0, z1, z2, z3, z4, z5, z6, z7, z8, z9, z10, z11⟩ := hSw; go_simp; (try with_reducible rfl); done)); (try simp only [Act.put, List.setIfInBounds_toArray, List.set_cons_zero, List.set_cons_succ, List.getElem_toArray, List.getElem_cons_succ, List.getElem_cons_zero])) | (refine wpAnyH_take (i := 26) (v := undef) rfl (by kernel_rfl) (by kernel_rfl) (by kernel_rfl) (fun _ _ _ h => h) (Or.inr ⟨by rfl, rfl⟩) hK ?_; (try simp only [Act.put, List.setIfInBounds_toArray, List.set_cons_zero, List.set_cons_succ, List.getElem_toArray, List.getElem_cons_succ, List.getElem_cons_zero]))
                              refine wpAnyH_done (by kernel_rfl) (NoPanic.normal ?_) _
                              (try simp only [Act.put, List.setIfInBounds_toArray, List.set_cons_zero, List.set_cons_succ, List.getElem_toArray, List.getElem_cons_succ, List.getElem_cons_zero])
                              have HRf : Hid (rb = false) := show _ = _ from by rw [HR2.out]; rfl
                              have HT2 : Hid (gT l fr C = firstT C.sp C.cl C.lo C.hi C.ss (mtO l fr) (l.length - (q + 1)) (fr + ((q + 1 : Nat) : Int))) := show _ = _ from by rw [HT1.out, HRf.out]; rfl
                              have HE2 : Hid (gE l fr C = firstE C.sp C.cl C.lo C.hi C.ss (mtO l fr) (l.length - (q + 1)) (fr + ((q + 1 : Nat) : Int))) := show _ = _ from by rw [HE1.out, HRf.out]; rfl
                              clear hK HTX HTY HTZ HR2 HE1 HT1 hN hM hIM
                              go_wp2_with fail
                              go_roundw
                              case rel => exact ⟨q + 1, by omega, by go_num, hown, hB, HT2.out, HE2.out⟩
                              case measure => simp [intOf]; omega
                            | true =>
                              first | (refine wpAnyH_take (i := 8) (v := ?_) rfl (by kernel_rfl) (by kernel_rfl) (by kernel_rfl) (fun _ _ _ h => h) (Or.inl ⟨by rfl, ?_⟩) hK ?_; rotate_left; (focus (intro w' hSw; obtain ⟨z0, z1, z2, z3, z4, z5, z6, z7, z8, z9, z10, z11⟩ := hSw; go_simp; (try with_reducible rfl); done)); (try simp only [Act.put, List.setIfInBounds_toArray, List.set_cons_zero, List.set_cons_succ, List.getElem_toArray, List.getElem_cons_succ, List.getElem_cons_zero])) | (refine wpAnyH_take (i := 8) (v := undef) rfl (by kernel_rfl) (by kernel_rfl) (by kernel_rfl) (fun _ _ _ h => h) (Or.inr ⟨by rfl, rfl⟩) hK ?_; (try simp only [Act.put, List.setIfInBounds_toArray, List.set_cons_zero, List.set_cons_succ, List.getElem_toArray, List.getElem_cons_succ, List.getElem_cons_zero]))
                              first | (refine wpAnyH_take (i := 9) (v := ?_) rfl (by kernel_rfl) (by kernel_rfl) (by kernel_rfl) (fun _ _ _ h => h) (Or.inl ⟨by rfl, ?_⟩) hK ?_; rotate_left; (focus (intro w' hSw; obtain ⟨z0, z1, z2, z3, z4, z5, z6, z7, z8, z9, z10, z11⟩ := hSw; go_simp; (try with_reducible rfl); done)); (try simp only [Act.put, List.setIfInBounds_toArray, List.set_cons_zero, List.set_cons_succ, List.getElem_toArray, List.getElem_cons_succ, List.getElem_cons_zero])) | (refine wpAnyH_take (i := 9) (v := undef) rfl (by kernel_rfl) (by kernel_rfl) (by kernel_rfl) (fun _ _ _ h => h) (Or.inr ⟨by rfl, rfl⟩) hK ?_; (try simp only [Act.put, List.setIfInBounds_toArray, List.set_cons_zero, List.set_cons_succ, List.getElem_toArray, List.getElem_cons_succ, List.getElem_cons_zero]))
                              first | (refine wpAnyH_take (i := 10) (v := ?_) rfl (by kernel_rfl) (by kernel_rfl) (by kernel_rfl) (fun _ _ _ h => h) (Or.inl ⟨by rfl, ?_⟩) hK ?_; rotate_left; (focus (intro w' hSw; obtain ⟨z0, z1, z2, z3, z4, z5, z6, z7, z8, z9, z10, z11⟩ := hSw; go_simp; (try with_reducible rfl); done)); (try simp only [Act.put, List.setIfInBounds_toArray, List.set_cons_zero, List.set_cons_succ, List.getElem_toArray, List.getElem_cons_succ, List.getElem_cons_zero])) | (refine wpAnyH_take (i := 10) (v := undef) rfl (by kernel_rfl) (by kernel_rfl) (by kernel_rfl) (fun _ _ _ h => h) (Or.inr ⟨by rfl, rfl⟩) hK ?_; (try simp only [Act.put, List.setIfInBounds_toArray, List.set_cons_zero, List.set_cons_succ, List.getElem_toArray, List.getElem_cons_succ, List.getElem_cons_zero]))
                              first | (refine wpAnyH_take (i := 11) (v := ?_) rfl (by kernel_rfl) (by kernel_rfl) (by kernel_rfl) (fun _ _ _ h => h) (Or.inl ⟨by rfl, ?_⟩) hK ?_; rotate_left; (focus (intro w' hSw; obtain ⟨z0, z1, z2, z3, z4, z5, z6, z7, z8, z9, z10, z11⟩ := hSw; go_simp; (try with_reducible rfl); done)); (try simp only [Act.put, List.setIfInBounds_toArray, List.set_cons_zero, List.set_cons_succ, List.getElem_toArray, List.getElem_cons_succ, List.getElem_cons_zero])) | (refine wpAnyH_take (i := 11) (v := undef) rfl (by kernel_rfl) (by kernel_rfl) (by kernel_rfl) (fun _ _ _ h => h) (Or.inr ⟨by rfl, rfl⟩) hK ?_; (try simp only [Act.put, List.setIfInBounds_toArray, List.set_cons_zero, List.set_cons_succ, List.getElem_toArray, List.getElem_cons_succ, List.getElem_cons_zero]))
                              first | (refine wpAnyH_take (i := 12) (v := ?_) rfl (by kernel_rfl) (by kernel_rfl) (by kernel_rfl) (fun _ _ _ h => h) (Or.inl ⟨by rfl, ?_⟩) hK ?_; rotate_left; (focus (intro w' hSw; obtain ⟨z0, z1, z2, z3, z4, z5, z6, z7, z8, z9, z10, z11⟩ := hSw; go_simp; (try with_reducible rfl); done)); (try simp only [Act.put, List.setIfInBounds_toArray, List.set_cons_zero, List.set_cons_succ, List.getElem_toArray, List.getElem_cons_succ, List.getElem_cons_zero])) | (refine wpAnyH_take (i := 12) (v := undef) rfl (by kernel_rfl) (by kernel_rfl) (by kernel_rfl) (fun _ _ _ h => h) (Or.inr ⟨by rfl, rfl⟩) hK ?_; (try simp only [Act.put, List.setIfInBounds_toArray, List.set_cons_zero, List.set_cons_succ, List.getElem_toArray, List.getElem_cons_succ, List.getElem_cons_zero]))
                              first | (refine wpAnyH_take (i := 13) (v := ?_) rfl (by kernel_rfl) (by kernel_rfl) (by kernel_rfl) (fun _ _ _ h => h) (Or.inl ⟨by rfl, ?_⟩) hK ?_; rotate_left; (focus (intro w' hSw; obtain ⟨z0, z1, z2, z3, z4, z5, z6, z7, z8, z9, z10, z11⟩ := hSw; go_simp; (try with_reducible rfl); done)); (try simp only [Act.put, List.setIfInBounds_toArray, List.set_cons_zero, List.set_cons_succ, List.getElem_toArray, List.getElem_cons_succ, List.getElem_cons_zero])) | (refine wpAnyH_take (i := 13) (v := undef) rfl (by kernel_rfl) (by kernel_rfl) (by kernel_rfl) (fun _ _ _ h => h) (Or.inr ⟨by rfl, rfl⟩) hK ?_; (try simp only [Act.put, List.setIfInBounds_toArray, List.set_cons_zero, List.set_cons_succ, List.getElem_toArray, List.getElem_cons_succ, List.getElem_cons_zero]))
                              first | (refine wpAnyH_take (i := 14) (v := ?_) rfl (by kernel_rfl) (by kernel_rfl) (by kernel_rfl) (fun _ _ _ h => h) (Or.inl ⟨by rfl, ?_⟩) hK ?_; rotate_left; (focus (intro w' hSw; obtain ⟨z0, z1, z2, z3, z4, z5, z6, z7, z8, z9, z10, z11⟩ := hSw; go_simp; (try with_reducible rfl); done)); (try simp only [Act.put, List.setIfInBounds_toArray, List.set_cons_zero, List.set_cons_succ, List.getElem_toArray, List.getElem_cons_succ, List.getElem_cons_zero])) | (refine wpAnyH_take (i := 14) (v := undef) rfl (by kernel_rfl) (by kernel_rfl) (by kernel_rfl) (fun _ _ _ h => h) (Or.inr ⟨by rfl, rfl⟩) hK ?_; (try simp only [Act.put, List.setIfInBounds_toArray, List.set_cons_zero, List.set_cons_succ, List.getElem_toArray, List.getElem_cons_succ, List.getElem_cons_zero]))
                              first | (refine wpAnyH_take (i := 15) (v := ?_) rfl (by kernel_rfl) (by kernel_rfl) (by kernel_rfl) (fun _ _ _ h => h) (Or.inl ⟨by rfl, ?_⟩) hK ?_; rotate_left; (focus (intro w' hSw; obtain ⟨z0, z1, z2, z3, z4, z5, z6, z7, z8, z9, z10, z11⟩ := hSw; go_simp; (try with_reducible rfl); done)); (try simp only [Act.put, List.setIfInBounds_toArray, List.set_cons_zero, List.set_cons_succ, List.getElem_toArray, List.getElem_cons_succ, List.getElem_cons_zero])) | (refine wpAnyH_take (i := 15) (v := undef) rfl (by kernel_rfl) (by kernel_rfl) (by kernel_rfl) (fun _ _ _ h => h) (Or.inr ⟨by rfl, rfl⟩) hK ?_; (try simp only [Act.put, List.setIfInBounds_toArray, List.set_cons_zero, List.set_cons_succ, List.getElem_toArray, List.getElem_cons_succ, List.getElem_cons_zero]))
                              refine wpAnyH_ready (rs := [16]) (by kernel_rfl) (by simp) (AllReadyH.cons rfl (fun K' hK' => ?_) AllReadyH.nil)
                              go_simp
                              refine (HTY.out _).mono ?_
                              rintro e w6 ⟨rfl, hbA⟩
                              (try dsimp only)
                              (try (with_reducible have hbA := below_drew' hbA))
                              have hN := hN.below hbA
                              have hM := hM.below hbA
                              have hIM := hIM.below hbA
                              have hown := ownsRow_below hown hbA
                              have hB := below_trans hB hbA
                              have hK : SQ nb bl offl q A0 A1 A2 A3 A4 A5 X w6 := SQ.of hN hM hIM HX.out hkl
                              refine hK'.out _ _ hK (fun _ => ?_)
                              clear hK' K' hbA
                              (try simp only [Act.put, List.setIfInBounds_toArray, List.set_cons_zero, List.set_cons_succ, List.getElem_toArray, List.getElem_cons_succ, List.getElem_cons_zero])
                              cases ty with
                              | false =>
                                first | (refine wpAnyH_take (i := 17) (v := ?_) rfl (by kernel_rfl) (by kernel_rfl) (by kernel_rfl) (fun _ _ _ h => h) (Or.inl ⟨by rfl, ?_⟩) hK ?_; rotate_left; (focus (intro w' hSw; obtain ⟨z0, z1, z2, z3, z4, z5, z6, z7, z8, z9, z10, z11⟩ := hSw; go_simp; (try with_reducible rfl); done)); (try simp only [Act.put, List.setIfInBounds_toArray, List.set_cons_zero, List.set_cons_succ, List.getElem_toArray, List.getElem_cons_succ, List.getElem_cons_zero])) | (refine wpAnyH_take (i := 17) (v := undef) rfl (by kernel_rfl) (by kernel_rfl) (by kernel_rfl) (fun _ _ _ h => h) (Or.inr ⟨by rfl, rfl⟩) hK ?_; (try simp only [Act.put, List.setIfInBounds_toArray, List.set_cons_zero, List.set_cons_succ, List.getElem_toArray, List.getElem_cons_succ, List.getElem_cons_zero]))
                                first | (refine wpAnyH_take (i := 18) (v := ?_) rfl (by kernel_rfl) (by kernel_rfl) (by kernel_rfl) (fun _ _ _ h => h) (Or.inl ⟨by rfl, ?_⟩) hK ?_; rotate_left; (focus (intro w' hSw; obtain ⟨z0, z1, z2, z3, z4, z5, z6, z7, z8, z9, z10, z11⟩ := hSw; go_simp; (try with_reducible rfl); done)); (try simp only [Act.put, List.setIfInBounds_toArray, List.set_cons_zero, List.set_cons_succ, List.getElem_toArray, List.getElem_cons_succ, List.getElem_cons_zero])) | (refine wpAnyH_take (i := 18) (v := undef) rfl (by kernel_rfl) (by kernel_rfl) (by kernel_rfl) (fun _ _ _ h => h) (Or.inr ⟨by rfl, rfl⟩) hK ?_; (try simp only [Act.put, List.setIfInBounds_toArray, List.set_cons_zero, List.set_cons_succ, List.getElem_toArray, List.getElem_cons_succ, List.getElem_cons_zero]))
                                first | (refine wpAnyH_take (i := 19) (v := ?_) rfl (by kernel_rfl) (by kernel_rfl) (by kernel_rfl) (fun _ _ _ h => h) (Or.inl ⟨by rfl, ?_⟩) hK ?_; rotate_left; (focus (intro w' hSw; obtain ⟨z0, z1, z2, z3, z4, z5, z6, z7, z8, z9, z10, z11⟩ := hSw; go_simp; (try with_reducible rfl); done)); (try simp only [Act.put, List.setIfInBounds_toArray, List.set_cons_zero, List.set_cons_succ, List.getElem_toArray, List.getElem_cons_succ, List.getElem_cons_zero])) | (refine wpAnyH_take (i := 19) (v := undef) rfl (by kernel_rfl) (by kernel_rfl) (by kernel_rfl) (fun _ _ _ h => h) (Or.inr ⟨by rfl, rfl⟩) hK ?_; (try simp only [Act.put, List.setIfInBounds_toArray, List.set_cons_zero, List.set_cons_succ, List.getElem_toArray, List.getElem_cons_succ, List.getElem_cons_zero]))
                                first | (refine wpAnyH_take (i := 20) (v := ?_) rfl (by kernel_rfl) (by kernel_rfl) (by kernel_rfl) (fun _ _ _ h => h) (Or.inl ⟨by rfl, ?_⟩) hK ?_; rotate_left; (focus (intro w' hSw; obtain ⟨z0, z1, z2, z3, z4, z5, z6, z7, z8, z9, z10, z11⟩ := hSw; go_simp; (try with_reducible rfl); done)); (try simp only [Act.put, List.setIfInBounds_toArray, List.set_cons_zero, List.set_cons_succ, List.getElem_toArray, List.getElem_cons_succ, List.getElem_cons_zero])) | (refine wpAnyH_take (i := 20) (v := undef) rfl (by kernel_rfl) (by kernel_rfl) (by kernel_rfl) (fun _ _ _ h => h) (Or.inr ⟨by rfl, rfl⟩) hK ?_; (try simp only [Act.put, List.setIfInBounds_toArray, List.set_cons_zero, List.set_cons_succ, List.getElem_toArray, List.getElem_cons_succ, List.getElem_cons_zero]))
                                first | (refine wpAnyH_take (i := 21) (v := ?_) rfl (by kernel_rfl) (by kernel_rfl) (by kernel_rfl) (fun _ _ _ h => h) (Or.inl ⟨by rfl, ?_⟩) hK ?_; rotate_left; (focus (intro w' hSw; obtain ⟨z0, z1, z2, z3, z4, z5, z6, z7, z8, z9, z10, z11⟩ := hSw; go_simp; (try with_reducible rfl); done)); (try simp only [Act.put, List.setIfInBounds_toArray, List.set_cons_zero, List.set_cons_succ, List.getElem_toArray, List.getElem_cons_succ, List.getElem_cons_zero])) | (refine wpAnyH_take (i := 21) (v := undef) rfl (by kernel_rfl) (by kernel_rfl) (by kernel_rfl) (fun _ _ _ h => h) (Or.inr ⟨by rfl, rfl⟩) hK ?_; (try simp only [Act.put, List.setIfInBounds_toArray, List.set_cons_zero, List.set_cons_succ, List.getElem_toArray, List.getElem_cons_succ, List.getElem_cons_zero]))
                                first | (refine wpAnyH_take (i := 22) (v := ?_) rfl (by kernel_rfl) (by kernel_rfl) (by kernel_rfl) (fun _ _ _ h => h) (Or.inl ⟨by rfl, ?_⟩) hK ?_; rotate_left; (focus (intro w' hSw; obtain ⟨z0, z1, z2, z3, z4, z5, z6, z7, z8, z9, z10, z11⟩ := hSw; go_simp; (try with_reducible rfl); done)); (try simp only [Act.put, List.setIfInBounds_toArray, List.set_cons_zero, List.set_cons_succ, List.getElem_toArray, List.getElem_cons_succ, List.getElem_cons_zero])) | (refine wpAnyH_take (i := 22) (v := undef) rfl (by kernel_rfl) (by kernel_rfl) (by kernel_rfl) (fun _ _ _ h => h) (Or.inr ⟨by rfl, rfl⟩) hK ?_; (try simp only [Act.put, List.setIfInBounds_toArray, List.set_cons_zero, List.set_cons_succ, List.getElem_toArray, List.getElem_cons_succ, List.getElem_cons_zero]))
                                first | (refine wpAnyH_take (i := 23) (v := ?_) rfl (by kernel_rfl) (by kernel_rfl) (by kernel_rfl) (fun _ _ _ h => h) (Or.inl ⟨by rfl, ?_⟩) hK ?_; rotate_left; (focus (intro w' hSw; obtain ⟨z0, z1, z2, z3, z4, z5, z6, z7, z8, z9, z10, z11⟩ := hSw; go_simp; (try with_reducible rfl); done)); (try simp only [Act.put, List.setIfInBounds_toArray, List.set_cons_zero, List.set_cons_succ, List.getElem_toArray, List.getElem_cons_succ, List.getElem_cons_zero])) | (refine wpAnyH_take (i := 23) (v := undef) rfl (by kernel_rfl) (by kernel_rfl) (by kernel_rfl) (fun _ _ _ h => h) (Or.inr ⟨by rfl, rfl⟩) hK ?_; (try simp only [Act.put, List.setIfInBounds_toArray, List.set_cons_zero, List.set_cons_succ, List.getElem_toArray, List.getElem_cons_succ, List.getElem_cons_zero]))
                                first | (refine wpAnyH_take (i := 24) (v := ?_) rfl (by kernel_rfl) (by kernel_rfl) (by kernel_rfl) (fun _ _ _ h => h) (Or.inl ⟨by rfl, ?_⟩) hK ?_; rotate_left; (focus (intro w' hSw; obtain ⟨z0, z1, z2, z3, z4, z5, z6, z7, z8, z9, z10, z11⟩ := hSw; go_simp; (try with_reducible rfl); done)); (try simp only [Act.put, List.setIfInBounds_toArray, List.set_cons_zero, List.set_cons_succ, List.getElem_toArray, List.getElem_cons_succ, List.getElem_cons_zero])) | (refine wpAnyH_take (i := 24) (v := undef) rfl (by kernel_rfl) (by kernel_rfl) (by kernel_rfl) (fun _ _ _ h => h) (Or.inr ⟨by rfl, rfl⟩) hK ?_; (try simp only [Act.put, List.setIfInBounds_toArray, List.set_cons_zero, List.set_cons_succ, List.getElem_toArray, List.getElem_cons_succ, List.getElem_cons_zero]))
                                first | (refine wpAnyH_take (i := 25) (v := ?_) rfl (by kernel_rfl) (by kernel_rfl) (by kernel_rfl) (fun _ _ _ h => h) (Or.inl ⟨by rfl, ?_⟩) hK ?_; rotate_left; (focus (intro w' hSw; obtain ⟨z0, z1, z2, z3, z4, z5, z6, z7, z8, z9, z10, z11⟩ := hSw; go_simp; (try with_reducible rfl); done)); (try simp only [Act.put, List.setIfInBounds_toArray, List.set_cons_zero, List.set_cons_succ, List.getElem_toArray, List.getElem_cons_succ, List.getElem_cons_zero])) | (refine wpAnyH_take (i := 25) (v := undef) rfl (by kernel_rfl) (by kernel_rfl) (by kernel_rfl) (fun _ _ _ h => h) (Or.inr ⟨by rfl, rfl⟩) hK ?_; (try simp only [Act.put, List.setIfInBounds_toArray, List.set_cons_zero, List.set_cons_succ, List.getElem_toArray, List.getElem_cons_succ, List.getElem_cons_zero]))
                                first | (refine wpAnyH_take (i := 26) (v := ?_) rfl (by kernel_rfl) (by kernel_rfl) (by kernel_rfl) (fun _ _ _ h => h) (Or.inl ⟨by rfl, ?_⟩) hK ?_; rotate_left; (focus (intro w' hSw; obtain ⟨z0, z1, z2, z3, z4, z5, z6, z7, z8, z9, z10, z11⟩ := hSw; go_simp; (try with_reducible rfl); done)); (try simp only [Act.put, List.setIfInBounds_toArray, List.set_cons_zero, List.set_cons_succ, List.getElem_toArray, List.getElem_cons_succ, List.getElem_cons_zero])) | (refine wpAnyH_take (i := 26) (v := undef) rfl (by kernel_rfl) (by kernel_rfl) (by kernel_rfl) (fun _ _ _ h => h) (Or.inr ⟨by rfl, rfl⟩) hK ?_; (try simp only [Act.put, List.setIfInBounds_toArray, List.set_cons_zero, List.set_cons_succ, List.getElem_toArray, List.getElem_cons_succ, List.getElem_cons_zero]))
                                refine wpAnyH_done (by kernel_rfl) (NoPanic.normal ?_) _
                                (try simp only [Act.put, List.setIfInBounds_toArray, List.set_cons_zero, List.set_cons_succ, List.getElem_toArray, List.getElem_cons_succ, List.getElem_cons_zero])
                                have HRf : Hid (rb = false) := show _ = _ from by rw [HR2.out]; rfl
                                have HT2 : Hid (gT l fr C = firstT C.sp C.cl C.lo C.hi C.ss (mtO l fr) (l.length - (q + 1)) (fr + ((q + 1 : Nat) : Int))) := show _ = _ from by rw [HT1.out, HRf.out]; rfl
                                have HE2 : Hid (gE l fr C = firstE C.sp C.cl C.lo C.hi C.ss (mtO l fr) (l.length - (q + 1)) (fr + ((q + 1 : Nat) : Int))) := show _ = _ from by rw [HE1.out, HRf.out]; rfl
                                clear hK HTX HTY HTZ HR2 HE1 HT1 hN hM hIM
                                go_wp2_with fail
                                go_roundw
                                case rel => exact ⟨q + 1, by omega, by go_num, hown, hB, HT2.out, HE2.out⟩
                                case measure => simp [intOf]; omega
                              | true =>
                                first | (refine wpAnyH_take (i := 17) (v := ?_) rfl (by kernel_rfl) (by kernel_rfl) (by kernel_rfl) (fun _ _ _ h => h) (Or.inl ⟨by rfl, ?_⟩) hK ?_; rotate_left; (focus (intro w' hSw; obtain ⟨z0, z1, z2, z3, z4, z5, z6, z7, z8, z9, z10, z11⟩ := hSw; go_simp; (try with_reducible rfl); done)); (try simp only [Act.put, List.setIfInBounds_toArray, List.set_cons_zero, List.set_cons_succ, List.getElem_toArray, List.getElem_cons_succ, List.getElem_cons_zero])) | (refine wpAnyH_take (i := 17) (v := undef) rfl (by kernel_rfl) (by kernel_rfl) (by kernel_rfl) (fun _ _ _ h => h) (Or.inr ⟨by rfl, rfl⟩) hK ?_; (try simp only [Act.put, List.setIfInBounds_toArray, List.set_cons_zero, List.set_cons_succ, List.getElem_toArray, List.getElem_cons_succ, List.getElem_cons_zero]))
                                first | (refine wpAnyH_take (i := 18) (v := ?_) rfl (by kernel_rfl) (by kernel_rfl) (by kernel_rfl) (fun _ _ _ h => h) (Or.inl ⟨by rfl, ?_⟩) hK ?_; rotate_left; (focus (intro w' hSw; obtain ⟨z0, z1, z2, z3, z4, z5, z6, z7, z8, z9, z10, z11⟩ := hSw; go_simp; (try with_reducible rfl); done)); (try simp only [Act.put, List.setIfInBounds_toArray, List.set_cons_zero, List.set_cons_succ, List.getElem_toArray, List.getElem_cons_succ, List.getElem_cons_zero])) | (refine wpAnyH_take (i := 18) (v := undef) rfl (by kernel_rfl) (by kernel_rfl) (by kernel_rfl) (fun _ _ _ h => h) (Or.inr ⟨by rfl, rfl⟩) hK ?_; (try simp only [Act.put, List.setIfInBounds_toArray, List.set_cons_zero, List.set_cons_succ, List.getElem_toArray, List.getElem_cons_succ, List.getElem_cons_zero]))
                                first | (refine wpAnyH_take (i := 19) (v := ?_) rfl (by kernel_rfl) (by kernel_rfl) (by kernel_rfl) (fun _ _ _ h => h) (Or.inl ⟨by rfl, ?_⟩) hK ?_; rotate_left; (focus (intro w' hSw; obtain ⟨z0, z1, z2, z3, z4, z5, z6, z7, z8, z9, z10, z11⟩ := hSw; go_simp; (try with_reducible rfl); done)); (try simp only [Act.put, List.setIfInBounds_toArray, List.set_cons_zero, List.set_cons_succ, List.getElem_toArray, List.getElem_cons_succ, List.getElem_cons_zero])) | (refine wpAnyH_take (i := 19) (v := undef) rfl (by kernel_rfl) (by kernel_rfl) (by kernel_rfl) (fun _ _ _ h => h) (Or.inr ⟨by rfl, rfl⟩) hK ?_; (try simp only [Act.put, List.setIfInBounds_toArray, List.set_cons_zero, List.set_cons_succ, List.getElem_toArray, List.getElem_cons_succ, List.getElem_cons_zero]))
                                first | (refine wpAnyH_take (i := 20) (v := ?_) rfl (by kernel_rfl) (by kernel_rfl) (by kernel_rfl) (fun _ _ _ h => h) (Or.inl ⟨by rfl, ?_⟩) hK ?_; rotate_left; (focus (intro w' hSw; obtain ⟨z0, z1, z2, z3, z4, z5, z6, z7, z8, z9, z10, z11⟩ := hSw; go_simp; (try with_reducible rfl); done)); (try simp only [Act.put, List.setIfInBounds_toArray, List.set_cons_zero, List.set_cons_succ, List.getElem_toArray, List.getElem_cons_succ, List.getElem_cons_zero])) | (refine wpAnyH_take (i := 20) (v := undef) rfl (by kernel_rfl) (by kernel_rfl) (by kernel_rfl) (fun _ _ _ h => h) (Or.inr ⟨by rfl, rfl⟩) hK ?_; (try simp only [Act.put, List.setIfInBounds_toArray, List.set_cons_zero, List.set_cons_succ, List.getElem_toArray, List.getElem_cons_succ, List.getElem_cons_zero]))
                                first | (refine wpAnyH_take (i := 21) (v := ?_) rfl (by kernel_rfl) (by kernel_rfl) (by kernel_rfl) (fun _ _ _ h => h) (Or.inl ⟨by rfl, ?_⟩) hK ?_; rotate_left; (focus (intro w' hSw; obtain ⟨z0, z1, z2, z3, z4, z5, z6, z7, z8, z9, z10, z11⟩ := hSw; go_simp; (try with_reducible rfl); done)); (try simp only [Act.put, List.setIfInBounds_toArray, List.set_cons_zero, List.set_cons_succ, List.getElem_toArray, List.getElem_cons_succ, List.getElem_cons_zero])) | (refine wpAnyH_take (i := 21) (v := undef) rfl (by kernel_rfl) (by kernel_rfl) (by kernel_rfl) (fun _ _ _ h => h) (Or.inr ⟨by rfl, rfl⟩) hK ?_; (try simp only [Act.put, List.setIfInBounds_toArray, List.set_cons_zero, List.set_cons_succ, List.getElem_toArray, List.getElem_cons_succ, List.getElem_cons_zero]))
                                first | (refine wpAnyH_take (i := 22) (v := ?_) rfl (by kernel_rfl) (by kernel_rfl) (by kernel_rfl) (fun _ _ _ h => h) (Or.inl ⟨by rfl, ?_⟩) hK ?_; rotate_left; (focus (intro w' hSw; obtain ⟨z0, z1, z2, z3, z4, z5, z6, z7, z8, z9, z10, z11⟩ := hSw; go_simp; (try with_reducible rfl); done)); (try simp only [Act.put, List.setIfInBounds_toArray, List.set_cons_zero, List.set_cons_succ, List.getElem_toArray, List.getElem_cons_succ, List.getElem_cons_zero])) | (refine wpAnyH_take (i := 22) (v := undef) rfl (by kernel_rfl) (by kernel_rfl) (by kernel_rfl) (fun _ _ _ h => h) (Or.inr ⟨by rfl, rfl⟩) hK ?_; (try simp only [Act.put, List.setIfInBounds_toArray, List.set_cons_zero, List.set_cons_succ, List.getElem_toArray, List.getElem_cons_succ, List.getElem_cons_zero]))
                                first | (refine wpAnyH_take (i := 23) (v := ?_) rfl (by kernel_rfl) (by kernel_rfl) (by kernel_rfl) (fun _ _ _ h => h) (Or.inl ⟨by rfl, ?_⟩) hK ?_; rotate_left; (focus (intro w' hSw; obtain ⟨z0, z1, z2, z3, z4, z5, z6, z7, z8, z9, z10, z11⟩ := hSw; go_simp; (try with_reducible rfl); done)); (try simp only [Act.put, List.setIfInBounds_toArray, List.set_cons_zero, List.set_cons_succ, List.getElem_toArray, List.getElem_cons_succ, List.getElem_cons_zero])) | (refine wpAnyH_take (i := 23) (v := undef) rfl (by kernel_rfl) (by kernel_rfl) (by kernel_rfl) (fun _ _ _ h => h) (Or.inr ⟨by rfl, rfl⟩) hK ?_; (try simp only [Act.put, List.setIfInBounds_toArray, List.set_cons_zero, List.set_cons_succ, List.getElem_toArray, List.getElem_cons_succ, List.getElem_cons_zero]))
                                first | (refine wpAnyH_take (i := 24) (v := ?_) rfl (by kernel_rfl) (by kernel_rfl) (by kernel_rfl) (fun _ _ _ h => h) (Or.inl ⟨by rfl, ?_⟩) hK ?_; rotate_left; (focus (intro w' hSw; obtain ⟨z0, z1, z2, z3, z4, z5, z6, z7, z8, z9, z10, z11⟩ := hSw; go_simp; (try with_reducible rfl); done)); (try simp only [Act.put, List.setIfInBounds_toArray, List.set_cons_zero, List.set_cons_succ, List.getElem_toArray, List.getElem_cons_succ, List.getElem_cons_zero])) | (refine wpAnyH_take (i := 24) (v := undef) rfl (by kernel_rfl) (by kernel_rfl) (by kernel_rfl) (fun _ _ _ h => h) (Or.inr ⟨by rfl, rfl⟩) hK ?_; (try simp only [Act.put, List.setIfInBounds_toArray, List.set_cons_zero, List.set_cons_succ, List.getElem_toArray, List.getElem_cons_succ, List.getElem_cons_zero]))
                                refine wpAnyH_ready (rs := [25]) (by kernel_rfl) (by simp) (AllReadyH.cons rfl (fun K' hK' => ?_) AllReadyH.nil)
                                go_simp
                                refine (HTZ.out _).mono ?_
                                rintro e w7 ⟨rfl, hbA⟩
                                (try dsimp only)
                                (try (with_reducible have hbA := below_drew' hbA))
                                have hN := hN.below hbA
                                have hM := hM.below hbA
                                have hIM := hIM.below hbA
                                have hown := ownsRow_below hown hbA
                                have hB := below_trans hB hbA
                                have hK : SQ nb bl offl q A0 A1 A2 A3 A4 A5 X w7 := SQ.of hN hM hIM HX.out hkl
                                refine hK'.out _ _ hK (fun _ => ?_)
                                clear hK' K' hbA
                                (try simp only [Act.put, List.setIfInBounds_toArray, List.set_cons_zero, List.set_cons_succ, List.getElem_toArray, List.getElem_cons_succ, List.getElem_cons_zero])
                                first | (refine wpAnyH_take (i := 26) (v := ?_) rfl (by kernel_rfl) (by kernel_rfl) (by kernel_rfl) (fun _ _ _ h => h) (Or.inl ⟨by rfl, ?_⟩) hK ?_; rotate_left; (focus (intro w' hSw; obtain ⟨z0, z1, z2, z3, z4, z5, z6, z7, z8, z9, z10, z11⟩ := hSw; go_simp; (try with_reducible rfl); done)); (try simp only [Act.put, List.setIfInBounds_toArray, List.set_cons_zero, List.set_cons_succ, List.getElem_toArray, List.getElem_cons_succ, List.getElem_cons_zero])) | (refine wpAnyH_take (i := 26) (v := undef) rfl (by kernel_rfl) (by kernel_rfl) (by kernel_rfl) (fun _ _ _ h => h) (Or.inr ⟨by rfl, rfl⟩) hK ?_; (try simp only [Act.put, List.setIfInBounds_toArray, List.set_cons_zero, List.set_cons_succ, List.getElem_toArray, List.getElem_cons_succ, List.getElem_cons_zero]))
                                refine wpAnyH_done (by kernel_rfl) (NoPanic.normal ?_) _
                                (try simp only [Act.put, List.setIfInBounds_toArray, List.set_cons_zero, List.set_cons_succ, List.getElem_toArray, List.getElem_cons_succ, List.getElem_cons_zero])
                                cases tz with
                                | false =>
                                  have HRf : Hid (rb = false) := show _ = _ from by rw [HR2.out]; rfl
                                  have HT2 : Hid (gT l fr C = firstT C.sp C.cl C.lo C.hi C.ss (mtO l fr) (l.length - (q + 1)) (fr + ((q + 1 : Nat) : Int))) := show _ = _ from by rw [HT1.out, HRf.out]; rfl
                                  have HE2 : Hid (gE l fr C = firstE C.sp C.cl C.lo C.hi C.ss (mtO l fr) (l.length - (q + 1)) (fr + ((q + 1 : Nat) : Int))) := show _ = _ from by rw [HE1.out, HRf.out]; rfl
                                  clear hK HTX HTY HTZ HR2 HE1 HT1 hN hM hIM
                                  go_wp2_with fail
                                  go_roundw
                                  case rel => exact ⟨q + 1, by omega, by go_num, hown, hB, HT2.out, HE2.out⟩
                                  case measure => simp [intOf]; omega
                                | true =>
                                  have HRt : Hid (rb = true) := show _ = _ from by rw [HR2.out]; rfl
                                  have HN1 := Lib.hid (HSN.out (fr + q) (by rw [HE1.out, HRt.out]; rfl) (by rw [HT1.out, HRt.out]; rfl))
                                  have HAD : Hid (mtAdd n (fr + q) acc = acc ++ [((n : Int), 0, fr + (q : Int))]) := show _ = _ from by unfold mtAdd; rw [if_pos tb0]
                                  rw [HAD.out] at HN1
                                  clear hK HTX HTY HTZ HR2 HE1 HT1 hN hM hIM HSE HSN
                                  go_wp2_with (at_builtin; refine wpList_append_own _ rfl _ _ 79 rfl w2.heap.size 85 i0 _ 3 24 Tryz.underlying79 hi hz0 hz1 hz2 rfl (by decide) _ _ _ rfl (hown.alloc _) ⟨w7.heap.size, 0, none⟩ 1 1 [.int .i64 n, .int .i64 0, .int .i64 (fr + q)] rfl rfl ?_ ?_ ?_ ?_ ?_ ?_)
                                  · exact World.news_of_block (cs := #[.int .i64 n, .int .i64 0, .int .i64 (fr + q)]) (t := 85) (fr := (0, 0)) (heap_alloc_new w7 _)
                                  · simp [Value.oneCell']
                                  · unfold maxLen; omega
                                  · omega
                                  · have := hB.size; simp; omega
                                  intro v' w8 hown' hgrow _
                                  have hB7 : Below w2.heap.size w2 w8 := (hB.alloc hB.size _).grown hgrow (by have := hB.size; simp; omega) (fun g hg => (World.ownsRow.lt hown g hg).1)
                                  clear hgrow hown hB
                                  go_wp2_with fail
                                  go_roundw
                                  case rel => exact ⟨n + 1, acc ++ [((n : Int), 0, fr + (q : Int))], by omega, by go_num, by simp; omega, by rw [mtc_snoc]; simpa using hown', hB7, HN1.out⟩
                                  case measure => simp [intOf]; omega
                      · obtain rfl : q = l.length := by omega
                        have HN1 := Lib.hid (HSN.out (-1) (by rw [HFE.out, Nat.sub_self]; rfl) (by rw [HFT.out, Nat.sub_self]; rfl))
                        have HAD : Hid (mtAdd n (-1) acc = acc) := show _ = _ from by unfold mtAdd; rw [if_neg (by omega)]
                        rw [HAD.out] at HN1
                        clear HFT HFE
                        go_wp2_with fail
                        go_roundw
                        case rel => exact ⟨n + 1, acc, by omega, by go_num, by omega, hown, hB, HN1.out⟩
                        case measure => simp [intOf]; omega
                  · obtain rfl : n = cs.length := by omega
                    have HF : Hid (meetsR l fr cs = (0, acc)) := show _ = _ from by rw [HR.out, HSO.out, Nat.sub_self]; rfl
                    go_wp2_with fail
                    go_ret2
                    exact meets_of HF.out ⟨_, rfl, ownsRow_base hown hsz2, below_trans hB2 hBw⟩
              · have hz' : (fleetE cs != 0) = true := by simpa using hz
                have HR : Hid (meetsR l fr cs = (fleetE cs, [])) := show _ = _ from by unfold meetsR; rw [if_neg HLG.out, if_neg (by simp [HA.out]), if_neg (by simp [HFF.out]), if_pos hz]
                generalize fleetE cs = E at *
                clear hz
                go_wp2_with fail
                go_ret2
                exact meets_of HR.out ⟨_, rfl, NP.out _, hB2⟩
          · have HFF : Hid (frB l.length fr = false) := show _ = _ from outB_false.2 (by omega)
            have hd0 : decide ((0 : Int) < (l.length : Int)) = false := decide_eq_false (by omega)
            go_wp2_with fail
            refine (HI.out _).mono ?_
            rintro e w1 ⟨rfl, rfl⟩
            go_wp2_with fail
            refine (rcrafts_any _ _ _ (HC.out.below hB) (by omega)).mono ?_
            rintro e w2 ⟨rfl, hb2⟩
            have hB2 := below_trans hB hb2
            clear hB hb2
            by_cases hz : fleetE cs = 0
            · have hz' : (fleetE cs != 0) = false := by simpa using hz
              have HR : Hid (meetsR l fr cs = mtOut l fr cs cs.length 0 []) := show _ = _ from by unfold meetsR; rw [if_neg HLG.out, if_neg (by simp [HA.out]), if_neg (by simp [HFF.out]), if_neg (by simp [hz])]
              have HOK := Lib.hid (fleetE_zero hz)
              rw [hz]
              clear hz hz'
              go_wp2_with fail
              have HL2 := Lib.hid (HL.out.below hB2)
              have HC2 := Lib.hid (HC.out.below hB2)
              have hsz2 : w.heap.size ≤ w2.heap.size := hB2.size
              clear HL HC
              go_loopw [10, 11, 12] (fun v i _ wr => ∃ (n : Nat) (acc : List (Int × Int × Int)), n ≤ cs.length ∧ i = .int .i64 n ∧ acc.length ≤ n ∧ wr.ownsRow w2.heap.size 85 3 v acc.length (mtc acc) ∧ Below w2.heap.size w2 wr ∧ Hid (mtOut l fr cs cs.length 0 [] = mtOut l fr cs (cs.length - n) n acc)) (fun _ i _ _ => cs.length - (intOf i).toNat)
              case atStart => exact ⟨0, [], Nat.zero_le _, rfl, by simp, by simpa [mtc] using World.ownsRow_nil _ _ _ _, Below.refl _ _, rfl⟩
              case round =>
                obtain ⟨n, acc, hnn, rfl, hal, hown, hBw, HSO⟩ := hrel
                obtain ⟨wo, rfl⟩ : ∃ wo : World, wo = wr := ⟨_, rfl⟩
                by_cases hlt : n < cs.length
                · have HOKn := Lib.hid (craft_ok (show crE (crAt cs n).nm.data.toList (crAt cs n).sp (crAt cs n).cl (crAt cs n).lo (crAt cs n).hi (crAt cs n).ss = 0 from HOK.out n hlt))
                  have HSN : Hid (∀ t : Int, gE l fr (crAt cs n) = 0 → gT l fr (crAt cs n) = t → mtOut l fr cs cs.length 0 [] = mtOut l fr cs (cs.length - (n + 1)) (n + 1) (mtAdd n t acc)) := fun t h1 h2 => by
                    rw [HSO.out, show cs.length - n = (cs.length - (n + 1)) + 1 by omega]
                    simp [mtOut, h1, h2]
                  have HSE : Hid (∀ e : Int, ¬ e = 0 → gE l fr (crAt cs n) = e → meetsR l fr cs = (e, [])) := fun e he h => by
                    rw [HR.out, HSO.out, show cs.length - n = (cs.length - (n + 1)) + 1 by omega]
                    simp only [mtOut, h, ne_eq, he, not_false_eq_true, if_true]
                  obtain ⟨C, HCC⟩ : ∃ C, Hid (crAt cs n = C) := ⟨_, rfl⟩
                  rw [HCC.out] at HOKn HSN HSE
                  go_wp2_with fail
                  go_loopw [10, 12] (fun v t wr => ∃ q : Nat, q ≤ l.length ∧ t = .int .i64 q ∧ wr.ownsRow w2.heap.size 85 3 v acc.length (mtc acc) ∧ Below w2.heap.size w2 wr ∧ Hid (gT l fr C = firstT C.sp C.cl C.lo C.hi C.ss (mtO l fr) (l.length - q) (fr + q)) ∧ Hid (gE l fr C = firstE C.sp C.cl C.lo C.hi C.ss (mtO l fr) (l.length - q) (fr + q))) (fun _ t _ => l.length - (intOf t).toNat)
                  case atStart => exact ⟨0, Nat.zero_le _, rfl, hown, hBw, by simp [Hid, gT], by simp [Hid, gE]⟩
                  case round =>
                    obtain ⟨q, hq, rfl, hown, hB, HFT, HFE⟩ := hrel
                    by_cases hkl : q < l.length
                    · exfalso
                      omega
                    · obtain rfl : q = l.length := by omega
                      have HN1 := Lib.hid (HSN.out (-1) (by rw [HFE.out, Nat.sub_self]; rfl) (by rw [HFT.out, Nat.sub_self]; rfl))
                      have HAD : Hid (mtAdd n (-1) acc = acc) := show _ = _ from by unfold mtAdd; rw [if_neg (by omega)]
                      rw [HAD.out] at HN1
                      clear HFT HFE
                      go_wp2_with fail
                      go_roundw
                      case rel => exact ⟨n + 1, acc, by omega, by go_num, by omega, hown, hB, HN1.out⟩
                      case measure => simp [intOf]; omega
                · obtain rfl : n = cs.length := by omega
                  have HF : Hid (meetsR l fr cs = (0, acc)) := show _ = _ from by rw [HR.out, HSO.out, Nat.sub_self]; rfl
                  go_wp2_with fail
                  go_ret2
                  exact meets_of HF.out ⟨_, rfl, ownsRow_base hown hsz2, below_trans hB2 hBw⟩
            · have hz' : (fleetE cs != 0) = true := by simpa using hz
              have HR : Hid (meetsR l fr cs = (fleetE cs, [])) := show _ = _ from by unfold meetsR; rw [if_neg HLG.out, if_neg (by simp [HA.out]), if_neg (by simp [HFF.out]), if_pos hz]
              generalize fleetE cs = E at *
              clear hz
              go_wp2_with fail
              go_ret2
              exact meets_of HR.out ⟨_, rfl, NP.out _, hB2⟩
end Go.Proofs.YtmglbegbijofkaaGreatDoor
