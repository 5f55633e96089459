import Derived.Test.YtmglbegbijofkaaGreatDoorW41
import Derived.Test.YtmglbegbijofkaaGreatDoorW38
set_option linter.unusedVariables false
set_option linter.unusedSimpArgs false
namespace Go.Proofs.YtmglbegbijofkaaGreatDoor
open Go.RowKit

def mtO (l : List St) (fr : Int) : Int → Int × Int × Int × Int × Int × Int := fun t => ((stAt l (t - fr).toNat).xl, (stAt l (t - fr).toNat).xh, (stAt l (t - fr).toNat).yl, (stAt l (t - fr).toNat).yh, (stAt l (t - fr).toNat).zl, (stAt l (t - fr).toNat).zh)
def gT (l : List St) (fr : Int) (c : Craft) : Int := firstT c.sp c.cl c.lo c.hi c.ss (mtO l fr) l.length fr
def gE (l : List St) (fr : Int) (c : Craft) : Int := firstE c.sp c.cl c.lo c.hi c.ss (mtO l fr) l.length fr
def mtAdd (i : Nat) (t : Int) (acc : List (Int × Int × Int)) : List (Int × Int × Int) := if 0 ≤ t then acc ++ [((i : Int), 0, t)] else acc
def mtOut (l : List St) (fr : Int) (cs : List Craft) : Nat → Nat → List (Int × Int × Int) → Int × List (Int × Int × Int)
  | 0, _, acc => (0, acc)
  | n + 1, i, acc => if gE l fr (crAt cs i) ≠ 0 then (gE l fr (crAt cs i), []) else mtOut l fr cs n (i + 1) (mtAdd i (gT l fr (crAt cs i)) acc)
def frB (n : Nat) (fr : Int) : Bool := outB fr 0 (min 100000 (100000 - (n : Int) + 1))
def meetsR (l : List St) (fr : Int) (cs : List Craft) : Int × List (Int × Int × Int) :=
  if 3001 < l.length ∨ 12 < cs.length then (3, []) else if stAny l then (7, []) else if frB l.length fr then (7, []) else if fleetE cs ≠ 0 then (fleetE cs, []) else mtOut l fr cs cs.length 0 []
set_option maxRecDepth 100000 in
set_option maxHeartbeats 2000000 in
theorem meets2_room (bs bf : Nat) (vs : Value) (l : List St) (fr : Int) (w : World) (hs : StatesAt w vs l) (h1 : w.cell? ⟨bs, 0, none⟩ = some vs) (h2 : w.cell? ⟨bf, 0, none⟩ = some (.int .i64 fr)) (f0 : 0 ≤ fr) (f1 : fr ≤ 100000) (hn : l.length ≤ 3001) :
    RoomOf 115 #[.pointer (some ⟨bs, 0, none⟩), .pointer (some ⟨bf, 0, none⟩)] (mtO l fr) fr (fr + l.length - 1) w := by
  intro t t1 t2 W hb
  have k1 := below_cell hb h1
  have k2 := below_cell hb h2
  obtain ⟨j, hj⟩ : ∃ j : Nat, t = fr + j := ⟨(t - fr).toNat, by omega⟩
  subst hj
  have hjl : j < l.length := by omega
  obtain ⟨a', c', rfl, h0 | ⟨b, off, rfl, hb', hc⟩⟩ := hs.below hb
  · omega
  · obtain ⟨s0, s1, s2, s3, s4, s5, s6, s7, s8, s9, s10, s11⟩ := st_cells hc hjl
    have HO : Hid (mtO l fr (fr + j) = ((stAt l j).xl, (stAt l j).xh, (stAt l j).yl, (stAt l j).yh, (stAt l j).zl, (stAt l j).zh)) := show _ = _ from by unfold mtO; rw [show (fr + (j : Int) - fr).toNat = j by omega]
    rw [HO.out]
    have ej : fr + (j : Int) - fr = (j : Int) := by omega
    have b1 : bs < W.heap.size := World.block_lt_of_cell? _ _ k1
    have b2 : bf < W.heap.size := World.block_lt_of_cell? _ _ k2
    generalize stAt l j = x at *
    clear hc h1 h2 HO t1 t2
    show Calls Tryz.prog 115 #[.int .i64 (fr + j), .pointer (some ⟨bs, 0, none⟩), .pointer (some ⟨bf, 0, none⟩)] W _
    go_enter Tryz.func115, Tryz.ntmps115
    go_wp2_with fail
    exact bodyPost_ret (v := .agg #[.int .i64 x.xl, .int .i64 x.xh, .int .i64 x.yl, .int .i64 x.yh, .int .i64 x.zl, .int .i64 x.zh]) (by simp [results, Tryz.results115, go_sem]) rfl ⟨rfl, (by repeat (first | exact Below.refl _ _ | assumption | refine balloc ?_ _ | refine below_trans ?_ (by assumption) | refine Below.drew ?_ | refine below_drewN ?_ _ | refine Below.setCell ?_ (by simp <;> omega) _))⟩

set_option maxRecDepth 100000 in
set_option maxHeartbeats 4000000 in
theorem meets_any (vs vc : Value) (l : List St) (fr : Int) (cs : List Craft) (w : World) (hs : StatesAt w vs l) (hc : CraftsAt w vc cs) (hn : l.length ≤ 9223372036854775806) (hm : cs.length ≤ 9223372036854775806) :
    Calls Tryz.prog 47 #[vs, .int .i64 fr, vc] w (MeetsPost w (meetsR l fr cs)) := by
  obtain ⟨al, cl, rfl, hx⟩ := id hs
  obtain ⟨ac, cc, rfl, hy⟩ := id hc.row
  clear hx hy
  have HL := Lib.hid hs
  have HC := Lib.hid hc
  clear hs hc
  have NP : Hid (∀ (W : World), W.ownsRow w.heap.size 85 3 (.slice none 0 0) 0 (mtc [])) := fun W => by simpa [mtc] using World.ownsRow_nil W _ _ _
  obtain ⟨i0, hi, hz0, hz1, hz2⟩ := info_parts Tryz.info85
  have hmf : ∀ (fn : Fn) (first cap : Array Value) (w : World), (Instr.makeFunc fn first cap).run Tryz.prog w = .ok (.func fn first cap) w := fun _ _ _ _ => rfl
  by_cases hlong : 3001 < l.length ∨ 12 < cs.length
  · have HR : Hid (meetsR l fr cs = (3, [])) := show _ = _ from by unfold meetsR; rw [if_pos hlong]
    have key : 3001 < l.length ∨ (l.length ≤ 3001 ∧ 12 < cs.length) := by omega
    clear hlong
    rcases key with h1 | ⟨h1, h2⟩
    all_goals
      go_enter Tryz.func47, Tryz.ntmps47
      go_wp2_with fail
      go_ret2
      exact meets_of HR.out ⟨_, rfl, NP.out _, (by repeat (first | exact Below.refl _ _ | assumption | refine balloc ?_ _ | refine below_trans ?_ (by assumption) | refine Below.drew ?_ | refine below_drewN ?_ _ | refine Below.setCell ?_ (by simp <;> omega) _))⟩
  · have hl12 : l.length ≤ 3001 := by omega
    have hc12 : cs.length ≤ 12 := by omega
    have HLG := Lib.hid hlong
    clear hlong
    have HST := Lib.hid (fun W (h : StatesAt W (.slice al l.length cl) l) => contains114 _ l W h (by omega))
    have HO := Lib.hid (fun W => out_any fr 0 (min 100000 (100000 - (l.length : Int) + 1)) W)
    have HFB : Hid (frB l.length fr = outB fr 0 (min 100000 (100000 - (l.length : Int) + 1))) := show _ = _ from rfl
    rw [← HFB.out] at HO
    go_enter Tryz.func47, Tryz.ntmps47
    go_wp2_with fail
    obtain ⟨hA, hF, hz, hB⟩ := alloc2 w #[.slice al l.length cl] #[.int .i64 fr] 101 3
    clear hz
    generalize (w.alloc (.cells #[.slice al l.length cl] 101)).alloc (.cells #[.int .i64 fr] 3) = W0 at *
    refine (HST.out _ (HL.out.below hB)).mono ?_
    rintro e w1 ⟨rfl, hb1⟩
    have hA := hA.below hb1
    have hF := hF.below hb1
    have hB := below_trans hB hb1
    clear hb1
    have a0 := hA.cell 0
    have f0 := hF.cell 0
    simp at a0 f0
    cases hst : stAny l with
    | true =>
      have HR : Hid (meetsR l fr cs = (7, [])) := show _ = _ from by unfold meetsR; rw [if_neg HLG.out, if_pos hst]
      clear hst
      go_wp2_with fail
      go_ret2
      exact meets_of HR.out ⟨_, rfl, NP.out _, hB⟩
    | false =>
      have HSF := Lib.hid hst
      clear hst
      obtain ⟨lim, hlim⟩ : ∃ lim : Int, lim = min 100000 (100000 - (l.length : Int) + 1) := ⟨_, rfl⟩
      rw [← hlim] at HO HFB
      have hlo : (100000 - (l.length : Int) + 1 < 100000 ∧ 100000 - (l.length : Int) + 1 = lim) ∨ (100000 ≤ 100000 - (l.length : Int) + 1 ∧ lim = 100000) := by omega
      have hfl : frB l.length fr = false → 0 ≤ fr ∧ fr ≤ 100000 ∧ fr + l.length - 1 ≤ 100000 := fun h => by
        have := outB_false.1 (HFB.out.symm.trans h)
        omega
      have HFL := Lib.hid hfl
      clear hfl hlim
      rcases hlo with ⟨m1, m2⟩ | ⟨m1, m2⟩
      · skip
        go_wp2_with fail
        refine (HO.out _).mono ?_
        rintro e w1' ⟨rfl, rfl⟩
        cases hfb : frB l.length fr with
        | true =>
          have HR : Hid (meetsR l fr cs = (7, [])) := show _ = _ from by unfold meetsR; rw [if_neg HLG.out, if_neg (by simp [HSF.out]), if_pos hfb]
          clear hfb
          go_wp2_with fail
          go_ret2
          exact meets_of HR.out ⟨_, rfl, NP.out _, hB⟩
        | false =>
          obtain ⟨r0, r1, r2⟩ := HFL.out hfb
          have HFF := Lib.hid hfb
          clear hfb
          go_wp2_with fail
          refine (fleet_any _ _ _ (HC.out.below hB) (by omega)).mono ?_
          rintro e w2 ⟨rfl, hb2⟩
          have hA := hA.below hb2
          have hF := hF.below hb2
          have hB2 := below_trans hB hb2
          clear hb2 hB a0 f0
          by_cases hz : fleetE cs = 0
          · have hz' : (fleetE cs != 0) = false := by simpa using hz
            have HR : Hid (meetsR l fr cs = mtOut l fr cs cs.length 0 []) := show _ = _ from by unfold meetsR; rw [if_neg HLG.out, if_neg (by simp [HSF.out]), if_neg (by simp [HFF.out]), if_neg (by simp [hz])]
            have HOK := Lib.hid (fleetE_zero hz)
            clear hz
            go_wp2_with fail
            have HL2 := Lib.hid (HL.out.below hB2)
            have HC2 := Lib.hid (HC.out.below hB2)
            have hsz2 : w.heap.size ≤ w2.heap.size := hB2.size
            have HA2 := Lib.hid hA
            have HF2 := Lib.hid hF
            clear HL HC hA hF
            go_loopw [6, 42] (fun v i wr => ∃ (n : Nat) (acc : List (Int × Int × Int)), n ≤ cs.length ∧ i = .int .i64 n ∧ acc.length ≤ n ∧ wr.ownsRow w2.heap.size 85 3 v acc.length (mtc acc) ∧ Below w2.heap.size w2 wr ∧ Hid (mtOut l fr cs cs.length 0 [] = mtOut l fr cs (cs.length - n) n acc)) (fun _ i _ => cs.length - (intOf i).toNat)
            case atStart => exact ⟨0, [], Nat.zero_le _, rfl, by simp, by simpa [mtc] using World.ownsRow_nil _ _ _ _, Below.refl _ _, rfl⟩
            case round =>
              obtain ⟨n, acc, hnn, rfl, hal, hown, hBw, HSO⟩ := hrel
              by_cases hlt : n < cs.length
              · have hv2 := HC2.out.below hBw
                obtain ⟨ac', cc', hac, h0 | ⟨bc, offc, rfl, hbc, hcc⟩⟩ := hv2.row
                · omega
                · simp only [Value.slice.injEq] at hac
                  obtain ⟨rfl, _, rfl⟩ := hac
                  obtain ⟨c0, c1, c2, c3, c4, c5⟩ := craft_cells hcc hlt
                  have hsg := hv2.at_ n hlt
                  have HOKn := Lib.hid (craft_ok (show crE (crAt cs n).nm.data.toList (crAt cs n).sp (crAt cs n).cl (crAt cs n).lo (crAt cs n).hi (crAt cs n).ss = 0 from HOK.out n hlt))
                  have HSN : Hid (∀ t : Int, gE l fr (crAt cs n) = 0 → gT l fr (crAt cs n) = t → mtOut l fr cs cs.length 0 [] = mtOut l fr cs (cs.length - (n + 1)) (n + 1) (mtAdd n t acc)) := fun t h1 h2 => by
                    rw [HSO.out, show cs.length - n = (cs.length - (n + 1)) + 1 by omega]
                    simp [mtOut, h1, h2]
                  have HSE : Hid (∀ e : Int, ¬ e = 0 → gE l fr (crAt cs n) = e → meetsR l fr cs = (e, [])) := fun e he h => by
                    rw [HR.out, HSO.out, show cs.length - n = (cs.length - (n + 1)) + 1 by omega]
                    simp only [mtOut, h, ne_eq, he, not_false_eq_true, if_true]
                  obtain ⟨C, HCC⟩ : ∃ C, Hid (crAt cs n = C) := ⟨_, rfl⟩
                  rw [HCC.out] at c0 c1 c2 c3 c4 c5 hsg HOKn HSN HSE
                  obtain ⟨a2, c2', hcv, _⟩ := id hsg
                  rw [hcv] at c5 hsg
                  clear hcv
                  have hA := HA2.out.below hBw
                  have hF := HF2.out.below hBw
                  have hBx : Below wr.heap.size wr (wr.alloc (.cells #[.string C.nm, .int .i64 C.sp, .int .i64 C.cl, .int .i64 C.lo, .int .i64 C.hi, .slice a2 C.ss.length c2'] 63)) := balloc (Below.refl _ _) _
                  have hA' := (hA.below hBx).cell 0
                  have hF' := (hF.below hBx).cell 0
                  simp at hA' hF'
                  have HSG := Lib.hid (hsg.below hBx)
                  have hown := ownsRow_below hown hBx
                  have hBy := below_trans hBw hBx
                  have HRM := Lib.hid (meets2_room w.heap.size (w.heap.size + 1) _ l fr _ ((HL2.out.below hBw).below hBx) hA' hF' r0 r1 hl12)
                  have HFI := Lib.hid (first115 w.heap.size (w.heap.size + 1) (mtO l fr) C.nm C.sp C.cl C.lo C.hi (.slice a2 C.ss.length c2') C.ss fr (fr + l.length - 1) _ HSG.out HOKn.out r0 (by omega) (by omega) HRM.out)
                  have eN : (fr + (l.length : Int) - 1 + 1 - fr).toNat = l.length := by omega
                  rw [eN] at HFI
                  have HGT : Hid (gT l fr C = firstT C.sp C.cl C.lo C.hi C.ss (mtO l fr) l.length fr) := show _ = _ from rfl
                  have HGE : Hid (gE l fr C = firstE C.sp C.cl C.lo C.hi C.ss (mtO l fr) l.length fr) := show _ = _ from rfl
                  rw [← HGT.out, ← HGE.out] at HFI
                  unfold ErrPair at HFI
                  clear hcc hv2 hsg HRM eN HGT HGE hBx hA hF HSG
                  generalize gT l fr C = T at *
                  generalize gE l fr C = G at *
                  go_wp2_with fail
                  refine HFI.out.mono ?_
                  rintro e w3 ⟨rfl, hb3⟩
                  have hB3 := below_trans hBy hb3
                  have hown := ownsRow_below hown hb3
                  clear hb3 hBy hBw hA' hF' c0 c1 c2 c3 c4 c5 HFI
                  by_cases hg : G = 0
                  · subst hg
                    by_cases ht : 0 ≤ T
                    · have HN1 := Lib.hid (HSN.out T rfl rfl)
                      have HAD : Hid (mtAdd n T acc = acc ++ [((n : Int), 0, T)]) := show _ = _ from by unfold mtAdd; rw [if_pos ht]
                      rw [HAD.out] at HN1
                      clear HSN HSE
                      go_wp2_with (at_builtin; refine wpList_append_own _ rfl _ _ 79 rfl w2.heap.size 85 i0 _ 3 24 Tryz.underlying79 hi hz0 hz1 hz2 rfl (by decide) _ _ _ rfl (hown.alloc _) ⟨w3.heap.size, 0, none⟩ 1 1 [.int .i64 n, .int .i64 0, .int .i64 T] rfl rfl ?_ ?_ ?_ ?_ ?_ ?_)
                      · exact World.news_of_block (cs := #[.int .i64 n, .int .i64 0, .int .i64 T]) (t := 85) (fr := (0, 0)) (heap_alloc_new w3 _)
                      · simp [Value.oneCell']
                      · unfold maxLen; omega
                      · omega
                      · have := hB3.size; simp; omega
                      intro v' w7 hown' hgrow _
                      have hB7 : Below w2.heap.size w2 w7 := (hB3.alloc hB3.size _).grown hgrow (by have := hB3.size; simp; omega) (fun g hg => (World.ownsRow.lt hown g hg).1)
                      clear hgrow hown hB3
                      go_wp2_with fail
                      go_roundw
                      case rel => exact ⟨n + 1, acc ++ [((n : Int), 0, T)], by omega, by go_num, by simp; omega, by rw [mtc_snoc]; simpa using hown', hB7, HN1.out⟩
                      case measure => simp [intOf]; omega
                    · have HN1 := Lib.hid (HSN.out T rfl rfl)
                      have HAD : Hid (mtAdd n T acc = acc) := show _ = _ from by unfold mtAdd; rw [if_neg ht]
                      rw [HAD.out] at HN1
                      clear HSN HSE
                      go_wp2_with fail
                      go_roundw
                      case rel => exact ⟨n + 1, acc, by omega, by go_num, by omega, hown, hB3, HN1.out⟩
                      case measure => simp [intOf]; omega
                  · have hgb : (G != 0) = true := by simpa using hg
                    have HF := Lib.hid (HSE.out G hg rfl)
                    clear hg HSN HSE
                    go_wp2_with fail
                    go_ret2
                    exact meets_of HF.out ⟨_, rfl, NP.out _, below_trans hB2 hB3⟩
              · obtain rfl : n = cs.length := by omega
                have HF : Hid (meetsR l fr cs = (0, acc)) := show _ = _ from by rw [HR.out, HSO.out, Nat.sub_self]; rfl
                go_wp2_with fail
                go_ret2
                exact meets_of HF.out ⟨_, rfl, ownsRow_base hown hsz2, below_trans hB2 hBw⟩
          · have hz' : (fleetE cs != 0) = true := by simpa using hz
            have HR : Hid (meetsR l fr cs = (fleetE cs, [])) := show _ = _ from by unfold meetsR; rw [if_neg HLG.out, if_neg (by simp [HSF.out]), if_neg (by simp [HFF.out]), if_pos hz]
            generalize fleetE cs = E at *
            clear hz
            go_wp2_with fail
            go_ret2
            exact meets_of HR.out ⟨_, rfl, NP.out _, hB2⟩
      · subst m2
        go_wp2_with fail
        refine (HO.out _).mono ?_
        rintro e w1' ⟨rfl, rfl⟩
        cases hfb : frB l.length fr with
        | true =>
          have HR : Hid (meetsR l fr cs = (7, [])) := show _ = _ from by unfold meetsR; rw [if_neg HLG.out, if_neg (by simp [HSF.out]), if_pos hfb]
          clear hfb
          go_wp2_with fail
          go_ret2
          exact meets_of HR.out ⟨_, rfl, NP.out _, hB⟩
        | false =>
          obtain ⟨r0, r1, r2⟩ := HFL.out hfb
          have HFF := Lib.hid hfb
          clear hfb
          go_wp2_with fail
          refine (fleet_any _ _ _ (HC.out.below hB) (by omega)).mono ?_
          rintro e w2 ⟨rfl, hb2⟩
          have hA := hA.below hb2
          have hF := hF.below hb2
          have hB2 := below_trans hB hb2
          clear hb2 hB a0 f0
          by_cases hz : fleetE cs = 0
          · have hz' : (fleetE cs != 0) = false := by simpa using hz
            have HR : Hid (meetsR l fr cs = mtOut l fr cs cs.length 0 []) := show _ = _ from by unfold meetsR; rw [if_neg HLG.out, if_neg (by simp [HSF.out]), if_neg (by simp [HFF.out]), if_neg (by simp [hz])]
            have HOK := Lib.hid (fleetE_zero hz)
            clear hz
            go_wp2_with fail
            have HL2 := Lib.hid (HL.out.below hB2)
            have HC2 := Lib.hid (HC.out.below hB2)
            have hsz2 : w.heap.size ≤ w2.heap.size := hB2.size
            have HA2 := Lib.hid hA
            have HF2 := Lib.hid hF
            clear HL HC hA hF
            go_loopw [6, 42] (fun v i wr => ∃ (n : Nat) (acc : List (Int × Int × Int)), n ≤ cs.length ∧ i = .int .i64 n ∧ acc.length ≤ n ∧ wr.ownsRow w2.heap.size 85 3 v acc.length (mtc acc) ∧ Below w2.heap.size w2 wr ∧ Hid (mtOut l fr cs cs.length 0 [] = mtOut l fr cs (cs.length - n) n acc)) (fun _ i _ => cs.length - (intOf i).toNat)
            case atStart => exact ⟨0, [], Nat.zero_le _, rfl, by simp, by simpa [mtc] using World.ownsRow_nil _ _ _ _, Below.refl _ _, rfl⟩
            case round =>
              obtain ⟨n, acc, hnn, rfl, hal, hown, hBw, HSO⟩ := hrel
              by_cases hlt : n < cs.length
              · have hv2 := HC2.out.below hBw
                obtain ⟨ac', cc', hac, h0 | ⟨bc, offc, rfl, hbc, hcc⟩⟩ := hv2.row
                · omega
                · simp only [Value.slice.injEq] at hac
                  obtain ⟨rfl, _, rfl⟩ := hac
                  obtain ⟨c0, c1, c2, c3, c4, c5⟩ := craft_cells hcc hlt
                  have hsg := hv2.at_ n hlt
                  have HOKn := Lib.hid (craft_ok (show crE (crAt cs n).nm.data.toList (crAt cs n).sp (crAt cs n).cl (crAt cs n).lo (crAt cs n).hi (crAt cs n).ss = 0 from HOK.out n hlt))
                  have HSN : Hid (∀ t : Int, gE l fr (crAt cs n) = 0 → gT l fr (crAt cs n) = t → mtOut l fr cs cs.length 0 [] = mtOut l fr cs (cs.length - (n + 1)) (n + 1) (mtAdd n t acc)) := fun t h1 h2 => by
                    rw [HSO.out, show cs.length - n = (cs.length - (n + 1)) + 1 by omega]
                    simp [mtOut, h1, h2]
                  have HSE : Hid (∀ e : Int, ¬ e = 0 → gE l fr (crAt cs n) = e → meetsR l fr cs = (e, [])) := fun e he h => by
                    rw [HR.out, HSO.out, show cs.length - n = (cs.length - (n + 1)) + 1 by omega]
                    simp only [mtOut, h, ne_eq, he, not_false_eq_true, if_true]
                  obtain ⟨C, HCC⟩ : ∃ C, Hid (crAt cs n = C) := ⟨_, rfl⟩
                  rw [HCC.out] at c0 c1 c2 c3 c4 c5 hsg HOKn HSN HSE
                  obtain ⟨a2, c2', hcv, _⟩ := id hsg
                  rw [hcv] at c5 hsg
                  clear hcv
                  have hA := HA2.out.below hBw
                  have hF := HF2.out.below hBw
                  have hBx : Below wr.heap.size wr (wr.alloc (.cells #[.string C.nm, .int .i64 C.sp, .int .i64 C.cl, .int .i64 C.lo, .int .i64 C.hi, .slice a2 C.ss.length c2'] 63)) := balloc (Below.refl _ _) _
                  have hA' := (hA.below hBx).cell 0
                  have hF' := (hF.below hBx).cell 0
                  simp at hA' hF'
                  have HSG := Lib.hid (hsg.below hBx)
                  have hown := ownsRow_below hown hBx
                  have hBy := below_trans hBw hBx
                  have HRM := Lib.hid (meets2_room w.heap.size (w.heap.size + 1) _ l fr _ ((HL2.out.below hBw).below hBx) hA' hF' r0 r1 hl12)
                  have HFI := Lib.hid (first115 w.heap.size (w.heap.size + 1) (mtO l fr) C.nm C.sp C.cl C.lo C.hi (.slice a2 C.ss.length c2') C.ss fr (fr + l.length - 1) _ HSG.out HOKn.out r0 (by omega) (by omega) HRM.out)
                  have eN : (fr + (l.length : Int) - 1 + 1 - fr).toNat = l.length := by omega
                  rw [eN] at HFI
                  have HGT : Hid (gT l fr C = firstT C.sp C.cl C.lo C.hi C.ss (mtO l fr) l.length fr) := show _ = _ from rfl
                  have HGE : Hid (gE l fr C = firstE C.sp C.cl C.lo C.hi C.ss (mtO l fr) l.length fr) := show _ = _ from rfl
                  rw [← HGT.out, ← HGE.out] at HFI
                  unfold ErrPair at HFI
                  clear hcc hv2 hsg HRM eN HGT HGE hBx hA hF HSG
                  generalize gT l fr C = T at *
                  generalize gE l fr C = G at *
                  go_wp2_with fail
                  refine HFI.out.mono ?_
                  rintro e w3 ⟨rfl, hb3⟩
                  have hB3 := below_trans hBy hb3
                  have hown := ownsRow_below hown hb3
                  clear hb3 hBy hBw hA' hF' c0 c1 c2 c3 c4 c5 HFI
                  by_cases hg : G = 0
                  · subst hg
                    by_cases ht : 0 ≤ T
                    · have HN1 := Lib.hid (HSN.out T rfl rfl)
                      have HAD : Hid (mtAdd n T acc = acc ++ [((n : Int), 0, T)]) := show _ = _ from by unfold mtAdd; rw [if_pos ht]
                      rw [HAD.out] at HN1
                      clear HSN HSE
                      go_wp2_with (at_builtin; refine wpList_append_own _ rfl _ _ 79 rfl w2.heap.size 85 i0 _ 3 24 Tryz.underlying79 hi hz0 hz1 hz2 rfl (by decide) _ _ _ rfl (hown.alloc _) ⟨w3.heap.size, 0, none⟩ 1 1 [.int .i64 n, .int .i64 0, .int .i64 T] rfl rfl ?_ ?_ ?_ ?_ ?_ ?_)
                      · exact World.news_of_block (cs := #[.int .i64 n, .int .i64 0, .int .i64 T]) (t := 85) (fr := (0, 0)) (heap_alloc_new w3 _)
                      · simp [Value.oneCell']
                      · unfold maxLen; omega
                      · omega
                      · have := hB3.size; simp; omega
                      intro v' w7 hown' hgrow _
                      have hB7 : Below w2.heap.size w2 w7 := (hB3.alloc hB3.size _).grown hgrow (by have := hB3.size; simp; omega) (fun g hg => (World.ownsRow.lt hown g hg).1)
                      clear hgrow hown hB3
                      go_wp2_with fail
                      go_roundw
                      case rel => exact ⟨n + 1, acc ++ [((n : Int), 0, T)], by omega, by go_num, by simp; omega, by rw [mtc_snoc]; simpa using hown', hB7, HN1.out⟩
                      case measure => simp [intOf]; omega
                    · have HN1 := Lib.hid (HSN.out T rfl rfl)
                      have HAD : Hid (mtAdd n T acc = acc) := show _ = _ from by unfold mtAdd; rw [if_neg ht]
                      rw [HAD.out] at HN1
                      clear HSN HSE
                      go_wp2_with fail
                      go_roundw
                      case rel => exact ⟨n + 1, acc, by omega, by go_num, by omega, hown, hB3, HN1.out⟩
                      case measure => simp [intOf]; omega
                  · have hgb : (G != 0) = true := by simpa using hg
                    have HF := Lib.hid (HSE.out G hg rfl)
                    clear hg HSN HSE
                    go_wp2_with fail
                    go_ret2
                    exact meets_of HF.out ⟨_, rfl, NP.out _, below_trans hB2 hB3⟩
              · obtain rfl : n = cs.length := by omega
                have HF : Hid (meetsR l fr cs = (0, acc)) := show _ = _ from by rw [HR.out, HSO.out, Nat.sub_self]; rfl
                go_wp2_with fail
                go_ret2
                exact meets_of HF.out ⟨_, rfl, ownsRow_base hown hsz2, below_trans hB2 hBw⟩
          · have hz' : (fleetE cs != 0) = true := by simpa using hz
            have HR : Hid (meetsR l fr cs = (fleetE cs, [])) := show _ = _ from by unfold meetsR; rw [if_neg HLG.out, if_neg (by simp [HSF.out]), if_neg (by simp [HFF.out]), if_pos hz]
            generalize fleetE cs = E at *
            clear hz
            go_wp2_with fail
            go_ret2
            exact meets_of HR.out ⟨_, rfl, NP.out _, hB2⟩
end Go.Proofs.YtmglbegbijofkaaGreatDoor
