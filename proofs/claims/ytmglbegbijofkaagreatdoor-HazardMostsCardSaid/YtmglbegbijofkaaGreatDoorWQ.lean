import Derived.Test.YtmglbegbijofkaaGreatDoorW70
import Derived.Test.YtmglbegbijofkaaGreatDoorW33
import Derived.Test.YtmglbegbijofkaaGreatDoorWM
import Derived.Test.YtmglbegbijofkaaGreatDoorPB
import Derived.Test.YtmglbegbijofkaaGreatDoorRL
import Derived.Deep.DeepCutAuto
import Derived.Deep.CutBlock
import Derived.Test.YtmglbegbijofkaaGreatDoorW74
import Derived.Test.YtmglbegbijofkaaGreatDoorW37
set_option linter.unusedVariables false
set_option linter.unusedSimpArgs false
namespace Go.Proofs.YtmglbegbijofkaaGreatDoor
open Go.RowKit Go.Shelf Go.Sort
set_option maxRecDepth 100000 in
set_option maxHeartbeats 800000 in
theorem rmost_bad (cx cy size cols rows : Int) (pv : Value) (zs : List Int) (xl xh yl yh lethal cap : Int) (w : World) (hv : IntsAt w pv zs) (hn : zs.length ≤ 9223372036854775806)
    (hask : ¬ askE cx cy size cols rows zs xl xh yl yh lethal cap = 0) :
    Calls Tryz.prog 50 #[.agg #[.int .i64 cx, .int .i64 cy, .int .i64 size, .int .i64 cols, .int .i64 rows, pv], .agg #[.int .i64 xl, .int .i64 xh, .int .i64 yl, .int .i64 yh], .agg #[.int .i64 lethal, .int .i64 cap]] w fun e w' =>
      e = .returned (.tuple #[.agg #[.slice none 0 0, .int .i64 0, .int .i64 0], .int .i64 0, .int .i64 (askE cx cy size cols rows zs xl xh yl yh lethal cap)]) ∧ Below w.heap.size w w' := by
  have HA := Lib.hid (fun W (hW : IntsAt W pv zs) => rasked_any cx cy size cols rows pv zs xl xh yl yh lethal cap W hW hn)
  obtain ⟨pa, pc, rfl, hx⟩ := id hv
  clear hx
  have HV := Lib.hid hv
  have hak : (askE cx cy size cols rows zs xl xh yl yh lethal cap != 0) = true := by simpa using hask
  clear hv hask
  generalize askE cx cy size cols rows zs xl xh yl yh lethal cap = ak at *
  go_enter Tryz.func50, Tryz.ntmps50
  go_wp2_with fail
  obtain ⟨hM0, hA0, hW0, hS0, hz0, hB0⟩ := alloc4 w #[.int .i64 cx, .int .i64 cy, .int .i64 size, .int .i64 cols, .int .i64 rows, .slice pa zs.length pc] #[.int .i64 xl, .int .i64 xh, .int .i64 yl, .int .i64 yh] #[.int .i64 lethal, .int .i64 cap] #[.slice none 0 0, .int .i64 0, .int .i64 0] 42 25 44 47
  generalize (((w.alloc (.cells #[.int .i64 cx, .int .i64 cy, .int .i64 size, .int .i64 cols, .int .i64 rows, .slice pa zs.length pc] 42)).alloc (.cells #[.int .i64 xl, .int .i64 xh, .int .i64 yl, .int .i64 yh] 25)).alloc (.cells #[.int .i64 lethal, .int .i64 cap] 44)).alloc (.cells #[.slice none 0 0, .int .i64 0, .int .i64 0] 47) = W0 at *
  have HZ0 := Lib.hid hz0
  clear hz0
  refine (HA.out W0 (HV.out.below hB0)).mono ?_
  rintro e w1 ⟨rfl, hb1⟩
  have hM1 := hM0.below hb1
  have hA1 := hA0.below hb1
  have hW1 := hW0.below hb1
  have hS1 := hS0.below hb1
  have hB1 := below_trans hB0 hb1
  have hz1 : w.heap.size + 4 ≤ w1.heap.size := by have := hb1.size; rw [HZ0.out] at this; exact this
  clear hM0 hA0 hW0 hS0 hB0 hb1
  obtain ⟨s0, s1, s2⟩ := cells3 hS1
  have f0 := hS1.frozen 0
  have f1 := hS1.frozen 1
  have f2 := hS1.frozen 2
  go_wp2_with fail
  refine bodyPost_ret (v := .tuple #[.agg #[.slice none 0 0, .int .i64 0, .int .i64 0], .int .i64 0, .int .i64 ak]) (by simp [results, Tryz.results50, go_sem, s0, s1, s2]) rfl ⟨rfl, ?_⟩
  exact ((hB1.setCell (by show w.heap.size ≤ w.heap.size + 1 + 1 + 1; omega) _).setCell (by show w.heap.size ≤ w.heap.size + 1 + 1 + 1; omega) _).setCell (by show w.heap.size ≤ w.heap.size + 1 + 1 + 1; omega) _
end Go.Proofs.YtmglbegbijofkaaGreatDoor
/- Plain: once nothing is left, the giving changes nothing. -/
namespace Go.Proofs.YtmglbegbijofkaaGreatDoor
theorem gvStep_done {zs : List Int} {cap : Int} (h1 : 1 ≤ cap) {st : List (Int × Int) × Int × Int} (h : st.2.1 = 0) (c : Int) : gvStep zs cap st c = st := by
  obtain ⟨a, l, p⟩ := st
  simp only at h
  subst h
  have e : min (0 : Int) cap = 0 := by omega
  simp [gvStep, e]
theorem gv_done {zs : List Int} {cap : Int} (h1 : 1 ≤ cap) (T : List Int) (h : (gv zs cap T).2.1 = 0) : ∀ R : List Int, gv zs cap (T ++ R) = gv zs cap T := fun R => by
  have e : gv zs cap (T ++ R) = R.foldl (gvStep zs cap) (gv zs cap T) := by simp [gv, List.foldl_append]
  rw [e]
  induction R with
  | nil => rfl
  | cons c R ih => rw [List.foldl_cons, gvStep_done h1 h]; exact ih (by simp [gv, List.foldl_append])
theorem gv_take_done {zs S : List Int} {cap : Int} (h1 : 1 ≤ cap) {k : Nat} (h : (gv zs cap (S.take k)).2.1 = 0) : gv zs cap S = gv zs cap (S.take k) := by
  have := gv_done h1 (S.take k) h (S.drop k)
  rwa [List.take_append_drop] at this
end Go.Proofs.YtmglbegbijofkaaGreatDoor
namespace Go.Proofs.YtmglbegbijofkaaGreatDoor
open Go.RowKit Go.Shelf Go.Sort
theorem partsOf_len (g : List Int) (k : Nat) : (partsOf g k).length ≤ k := by
  unfold partsOf
  have h1 := List.length_filterMap_le (fun (i : Nat) => if 0 < gvn g i then some ((i : Int), gvn g i) else none) (List.range k)
  rw [List.length_range] at h1
  exact h1
theorem parts_at_row {w : World} {B : Nat} {v : Value} {l : List (Int × Int)} (h : w.ownsRow B 121 2 v l.length (spc l)) : SpansAt w v l := by
  obtain ⟨h1, ⟨rfl, h2⟩ | ⟨g, cap, cur, rfl, h4, h5, h6, h7, h8, h9⟩⟩ := h
  · exact ⟨_, _, by rw [h2], .inl h2⟩
  · refine ⟨_, _, rfl, .inr ⟨g, 0, rfl, (Array.getElem?_eq_some_iff.1 h5).1, fun i hi => ?_⟩⟩
    have hg := spc_get l i hi
    rw [← h9, List.getElem?_take_of_lt (by omega)] at hg
    unfold World.cell?
    rw [h5]
    simpa using hg
theorem gv_parts {zs : List Int} {cap : Int} {L : List Int} (hc : CellsOK zs L) (h1 : 1 ≤ cap) : (partsOf (givL zs.length (gv zs cap (ordS zs L)).1) zs.length).Perm (gv zs cap (ordS zs L)).1 := by
  have hf := gv_feas h1 _ hc.desc hc.nodup
  have hi := gv_inv h1 _ hc.desc
  have hcc : ∀ p ∈ (gv zs cap (ordS zs L)).1, 0 ≤ p.1 ∧ p.1 < (zs.length : Int) ∧ 1 ≤ p.2 := fun p hp => by
    have hm := hc.perm.mem_iff.1 (hf.sub p.1 (List.mem_map_of_mem hp))
    exact ⟨(hc.r _ hm).1, (hc.r _ hm).2, (hi.part p hp).1⟩
  obtain ⟨qs, hqp, hqs⟩ : ∃ qs : List (Int × Int), qs.Perm (gv zs cap (ordS zs L)).1 ∧ qs.Pairwise (fun x y => x.1 ≤ y.1) :=
    ⟨_, List.mergeSort_perm _ (fun x y => decide (x.1 ≤ y.1)), (List.pairwise_mergeSort (le := fun x y : Int × Int => decide (x.1 ≤ y.1)) (fun a b c h1 h2 => by simp at *; omega) (fun a b => by simp; omega) _).imp (fun h => by simpa using h)⟩
  rw [parts_eq hf.nodup hcc hqp hqs]
  exact hqp
theorem mostSpr_ref {zs : List Int} {cap : Int} {L : List Int} {more : Bool} {w w' : World} {v : Value} {o p : Int} (hc : CellsOK zs L) (h1 : 1 ≤ cap) (h2 : ¬ (0 < (gv zs cap (ordS zs L)).2.1 ∧ more = false)) (ho : (gv zs cap (ordS zs L)).2.1 = o) (hp : gvPrice (gv zs cap (ordS zs L)) = p)
    (hs : SpansAt w' v (partsOf (givL zs.length (gv zs cap (ordS zs L)).1) zs.length)) (hb : Below w.heap.size w w') :
    MostSpr w (mostQ zs 0 cap L more) (mostO zs 0 cap L more) (mostP zs 0 cap L more) (mostN zs 0 cap L more) (mostE zs 0 cap L more) (.returned (.tuple #[.agg #[v, .int .i64 o, .int .i64 p], .int .i64 (ppl zs (partsOf (givL zs.length (gv zs cap (ordS zs L)).1) zs.length)), .int .i64 0])) w' := by
  have he : mostE zs 0 cap L more = 0 := mostE_zero.2 ⟨rfl, h2⟩
  refine ⟨v, ?_, ?_, hb⟩
  · unfold mostN mostO mostP
    rw [he, if_pos rfl, if_pos rfl, if_pos rfl, ppl_perm zs (gv_parts hc h1), ho, hp]
  · unfold mostQ
    rw [if_pos he]
    exact hs
def S21 (sb gb k : Nat) (v : Value) (gk : Int) (w' : World) : Prop := w'.cell? ⟨sb, 0, none⟩ = some v ∧ w'.cell? ⟨gb, k, none⟩ = some (.int .i64 gk)
set_option maxRecDepth 100000 in
set_option maxHeartbeats 4000000 in
theorem rmost_ok (cx cy size cols rows : Int) (pv : Value) (zs : List Int) (xl xh yl yh lethal cap : Int) (w : World) (hv : IntsAt w pv zs) (hn : zs.length ≤ 9223372036854775806)
    (h0 : askE cx cy size cols rows zs xl xh yl yh lethal cap = 0) :
    Calls Tryz.prog 50 #[.agg #[.int .i64 cx, .int .i64 cy, .int .i64 size, .int .i64 cols, .int .i64 rows, pv], .agg #[.int .i64 xl, .int .i64 xh, .int .i64 yl, .int .i64 yh], .agg #[.int .i64 lethal, .int .i64 cap]] w
      (MostSpr w (mostQ zs 0 cap (cellsL cx cy size cols rows xl xh yl yh) (cellsM cx cy size cols rows xl xh yl yh)) (mostO zs 0 cap (cellsL cx cy size cols rows xl xh yl yh) (cellsM cx cy size cols rows xl xh yl yh))
        (mostP zs 0 cap (cellsL cx cy size cols rows xl xh yl yh) (cellsM cx cy size cols rows xl xh yl yh)) (mostN zs 0 cap (cellsL cx cy size cols rows xl xh yl yh) (cellsM cx cy size cols rows xl xh yl yh)) (mostE zs 0 cap (cellsL cx cy size cols rows xl xh yl yh) (cellsM cx cy size cols rows xl xh yl yh))) := by
  obtain ⟨pa, pc, rfl, hx⟩ := id hv
  clear hx
  have HA := Lib.hid (fun W (hW : IntsAt W (.slice pa zs.length pc) zs) => rasked_any cx cy size cols rows (.slice pa zs.length pc) zs xl xh yl yh lethal cap W hW hn)
  have HV := Lib.hid hv
  obtain ⟨hk1, hk2, hk3, hk4⟩ := askE_zero h0
  clear hk2 hk3
  obtain ⟨v9, v10⟩ := outB_false.1 hk4
  obtain ⟨hm1, hzl, hix⟩ := chkE_zero hk1
  clear hzl hix
  obtain ⟨⟨u1, u2⟩, ⟨u3, u4⟩, ⟨u5, u6⟩, ⟨u7, u8⟩, u9, u10⟩ := mapB_false.1 hm1
  have HK := Lib.hid (cells_ok h0)
  have hn4 := HK.out.n4
  have hn0 := HK.out.n0
  have hL4 := HK.out.len
  have HRC := Lib.hid (fun W (hW : IntsAt W (.slice pa zs.length pc) zs) => rcells_any cx cy size cols rows _ zs xl xh yl yh W hW u1 u2 u3 u4 u5 u6 u7 u8 hn4)
  have HRO := Lib.hid (fun W => routside_any cx cy size cols rows (.slice pa zs.length pc) xl xh yl yh W u1 u2 u3 u4 u5 u6 u7 u8 u9 u10)
  unfold RCellsPost at HRC
  rw [← cellsL_fl h0] at HRC
  rw [h0] at HA
  clear hk1 hk4 hm1 h0 hv
  generalize cellsL cx cy size cols rows xl xh yl yh = L at *
  have HFU := Lib.hid (fun W lv gvv G (h1 : IntsAt W (.slice pa zs.length pc) zs) (h2 : IntsAt W lv L) (h3 : IntsAt W gvv G) (hG : G.length = zs.length) => fullest_any cx cy size cols rows _ lv gvv zs L G W h1 h2 h3 HK.out.r hG hn4 hL4)
  have HPP := Lib.hid (fun W sv out price ps (h1 : IntsAt W (.slice pa zs.length pc) zs) (h2 : SpansAt W sv ps) h3 h4 => rpeople_any cx cy size cols rows _ sv out price zs ps W h1 h2 HK.out.z h3 h4)
  go_enter Tryz.func50, Tryz.ntmps50
  go_wp2_with fail
  obtain ⟨hM0, hA0, hW0, hS0, hz0, hB0⟩ := alloc4 w #[.int .i64 cx, .int .i64 cy, .int .i64 size, .int .i64 cols, .int .i64 rows, .slice pa zs.length pc] #[.int .i64 xl, .int .i64 xh, .int .i64 yl, .int .i64 yh] #[.int .i64 lethal, .int .i64 cap] #[.slice none 0 0, .int .i64 0, .int .i64 0] 42 25 44 47
  generalize (((w.alloc (.cells #[.int .i64 cx, .int .i64 cy, .int .i64 size, .int .i64 cols, .int .i64 rows, .slice pa zs.length pc] 42)).alloc (.cells #[.int .i64 xl, .int .i64 xh, .int .i64 yl, .int .i64 yh] 25)).alloc (.cells #[.int .i64 lethal, .int .i64 cap] 44)).alloc (.cells #[.slice none 0 0, .int .i64 0, .int .i64 0] 47) = W0 at *
  have HZ0 := Lib.hid hz0
  clear hz0
  refine (HA.out W0 (HV.out.below hB0)).mono ?_
  rintro e w1 ⟨rfl, hb1⟩
  have hM1 := hM0.below hb1
  have hA1 := hA0.below hb1
  have hW1 := hW0.below hb1
  have hS1 := hS0.below hb1
  have hB1 := below_trans hB0 hb1
  have hz1 : w.heap.size + 4 ≤ w1.heap.size := by have := hb1.size; rw [HZ0.out] at this; exact this
  clear hM0 hA0 hW0 hS0 hB0 hb1
  obtain ⟨m0, m1, m2, m3, m4, m5⟩ := cells6 hM1
  obtain ⟨x0, x1, x2, x3⟩ := cells4 hA1
  go_wp2_with fail
  clear m0 m1 m2 m3 m4 m5 x0 x1 x2 x3
  refine (HRC.out _ (HV.out.below hB1)).mono ?_
  rintro e w2 ⟨cv, rfl, hown, hb2⟩
  have HI := Lib.hid (ints_at_row hown)
  obtain ⟨la, lc, rfl, hx⟩ := id (ints_at_row hown)
  clear hx hown
  have hM2 := hM1.below hb2
  have hA2 := hA1.below hb2
  have hW2 := hW1.below hb2
  have hS2 := hS1.below hb2
  have hB2 := below_trans hB1 hb2
  have hz2' : w.heap.size + 4 ≤ w2.heap.size := by have := hb2.size; omega
  clear hz1
  clear hM1 hA1 hW1 hS1 hB1 hb2
  obtain ⟨m0, m1, m2, m3, m4, m5⟩ := cells6 hM2
  obtain ⟨i0, hi, hz0, hz1, hz2⟩ := info_parts Tryz.info3
  have hsz : w.heap.size + 4 ≤ w2.heap.size := hz2'
  clear hz2'
  go_wp2_with (refine wpList_make_full _ (by rfl) _ _ 40 (by rfl) w2.heap.size 3 i0 (.int .i64 0) 1 Tryz.underlying40 hi hz0 hz1 .i64 .i64 _ _ zs.length (by rfl) (by rfl) (by rfl) (by rfl) (by rw [hz2]; omega) (by unfold maxLen; omega) (by omega) ?_)
  intro w4 hown4 hgr4
  have hpl : (madeCells #[Value.int .i64 0] zs.length).toList = (List.replicate zs.length (0 : Int)).map (Value.int .i64) := by rw [toList_madeCells_one]; simp
  rw [hpl] at hown4
  have hb4 : Below w2.heap.size w2 w4 := (Below.refl _ _).grown hgr4 (Nat.le_refl _) (fun k e => by cases e)
  have hbs : Below w4.heap.size w4 (w4.alloc (.cells #[.slice none 0 0, .int .i64 0, .int .i64 0] 47)) := balloc (Below.refl _ _) _
  have hM5 := (hM2.below hb4).below hbs
  have hA5 := (hA2.below hb4).below hbs
  have hW5 := (hW2.below hb4).below hbs
  have hS5 := (hS2.below hb4).below hbs
  have hB5 := below_trans (below_trans hB2 hb4) hbs
  have HIB : Hid (∀ W, Below w2.heap.size w2 W → IntsAt W (.slice la L.length lc) L) := show ∀ _, _ → _ from fun W h => HI.out.below h
  have hG5 := below_trans hb4 hbs
  have HTR : Hid (∀ W W', Below w2.heap.size w2 W → Below W.heap.size W W' → Below w2.heap.size w2 W') := show ∀ _ _, _ → _ → _ from fun W W' h h' => below_trans h h'
  have hC5 := cellsNew w4 #[.slice none 0 0, .int .i64 0, .int .i64 0] 47
  have hrow5 := ownsRow_below hown4 hbs
  have hs4 : w2.heap.size ≤ w4.heap.size := hb4.size
  clear hown4 hgr4 hpl hM2 hA2 hW2 hS2 hB2 hb4 hbs m0 m1 m2 m3 m4 m5
  go_upto_block 0 with fail
  generalize w4.alloc (.cells #[.slice none 0 0, .int .i64 0, .int .i64 0] 47) = W5 at *
  generalize w4.heap.size = sb at *
  generalize w2.heap.size = gb at *
  have HNE : Hid (gb ≠ sb) := show _ from by
    rintro rfl
    have h1 := hrow5.cellAt 0 (by omega)
    rw [List.getElem?_map, List.getElem?_eq_getElem (by simpa using hn0)] at h1
    have h2 := hC5.cell 0
    rw [h2] at h1
    simp at h1
  have HOW := Lib.hid hrow5
  clear hrow5
  go_cut [12] (fun lf wx => ∃ (k : Nat) (left : Int), lf = .int .i64 left ∧ Hid (k ≤ (ordS zs L).length ∧ left = (gv zs cap ((ordS zs L).take k)).2.1 ∧ (0 < left → k = (ordS zs L).length)) ∧ Hid (wx.ownsRow gb 3 1 (.slice (some ⟨gb, 0, none⟩) zs.length zs.length) zs.length ((givL zs.length (gv zs cap ((ordS zs L).take k)).1).map (Value.int .i64))) ∧ cellsAt wx sb 47 #[.slice none 0 0, .int .i64 0, .int .i64 (gv zs cap ((ordS zs L).take k)).2.2] ∧ cellsAt wx w.heap.size 42 #[.int .i64 cx, .int .i64 cy, .int .i64 size, .int .i64 cols, .int .i64 rows, .slice pa zs.length pc] ∧ cellsAt wx (w.heap.size + 1) 25 #[.int .i64 xl, .int .i64 xh, .int .i64 yl, .int .i64 yh] ∧ cellsAt wx (w.heap.size + 1 + 1 + 1) 47 #[.slice none 0 0, .int .i64 0, .int .i64 0] ∧ Below w.heap.size w wx)
  case first =>
    go_wp2_with fail
    go_loopw [12] (fun lf wx => ∃ (k : Nat) (left : Int), lf = .int .i64 left ∧ Hid (k ≤ (ordS zs L).length ∧ left = (gv zs cap ((ordS zs L).take k)).2.1 ∧ left ≤ 1000000) ∧ Hid (wx.ownsRow gb 3 1 (.slice (some ⟨gb, 0, none⟩) zs.length zs.length) zs.length ((givL zs.length (gv zs cap ((ordS zs L).take k)).1).map (Value.int .i64))) ∧ cellsAt wx sb 47 #[.slice none 0 0, .int .i64 0, .int .i64 (gv zs cap ((ordS zs L).take k)).2.2] ∧ cellsAt wx w.heap.size 42 #[.int .i64 cx, .int .i64 cy, .int .i64 size, .int .i64 cols, .int .i64 rows, .slice pa zs.length pc] ∧ cellsAt wx (w.heap.size + 1) 25 #[.int .i64 xl, .int .i64 xh, .int .i64 yl, .int .i64 yh] ∧ cellsAt wx (w.heap.size + 1 + 1) 44 #[.int .i64 lethal, .int .i64 cap] ∧ cellsAt wx (w.heap.size + 1 + 1 + 1) 47 #[.slice none 0 0, .int .i64 0, .int .i64 0] ∧ Below w.heap.size w wx ∧ Below gb w2 wx) (fun lf _ => (intOf lf).toNat)
    case atStart => exact ⟨0, 1000000, rfl, show _ ∧ _ ∧ _ from ⟨Nat.zero_le _, rfl, by omega⟩, HOW, hC5, hM5, hA5, hW5, hS5, hB5, hG5⟩
    case round =>
      obtain ⟨k, left, rfl, HK1, HOW6, hC6, hM6, hA6, hW6, hS6, hB6, hb6⟩ := hrel
      by_cases hl : 0 < left
      · have hlk : 0 < (gv zs cap ((ordS zs L).take k)).2.1 := by rw [← HK1.out.2.1]; exact hl
        have hgl : (givL zs.length (gv zs cap ((ordS zs L).take k)).1).length = zs.length := givL_length _ _
        have HF := Lib.hid (HFU.out wr (.slice la L.length lc) (.slice (some ⟨gb, 0, none⟩) zs.length zs.length) (givL zs.length (gv zs cap ((ordS zs L).take k)).1) (HV.out.below hB6) (HIB.out _ hb6) (by have h := ints_at_row (w := wr) (v := .slice (some ⟨gb, 0, none⟩) zs.length zs.length) (l := givL zs.length (gv zs cap ((ordS zs L).take k)).1) (by rw [hgl]; exact HOW6.out); exact h) hgl)
        obtain ⟨m0, m1, m2, m3, m4, m5⟩ := cells6 hM6
        by_cases hk : k < (ordS zs L).length
        · rw [ref_next v9 HK.out.ord HK.out.perm HK.out.r HK.out.asc hk hlk] at HF
          have HST := Lib.hid (ref_step v9 hk hlk zs.length)
          have hcm : (ordS zs L)[k] ∈ L := HK.out.perm.mem_iff.1 (List.getElem_mem hk)
          obtain ⟨c0, c1⟩ := HK.out.r _ hcm
          rw [← HK1.out.2.1] at HST
          have hl1 : left ≤ 1000000 := HK1.out.2.2
          generalize (ordS zs L)[k] = c at *
          obtain ⟨ci, rfl⟩ : ∃ ci : Nat, c = ci := ⟨c.toNat, by omega⟩
          have hci : ci < zs.length := by omega
          clear hcm
          go_wp2_with fail
          refine HF.out.mono ?_
          rintro e w7 ⟨rfl, hb7⟩
          have HOW7 := Lib.hid (ownsRow_below HOW6.out hb7)
          have hC7 := hC6.below hb7
          have hM7 := hM6.below hb7
          have hA7 := hA6.below hb7
          have hW7 := hW6.below hb7
          have hS7 := hS6.below hb7
          have hB7 := below_trans hB6 hb7
          have hb7 := HTR.out _ _ hb6 hb7
          clear hC6 hM6 hA6 hW6 hS6 hB6 hb6 hgl hlk m0 m1 m2 m3 m4 m5
          obtain ⟨m0, m1, m2, m3, m4, m5⟩ := cells6 hM7
          obtain ⟨q0, q1⟩ := cells2 hW7
          obtain ⟨r0, r1, r2⟩ := cells3 hC7
          have fr2 := hC7.frozen 2
          have hgf := HOW7.out.frozenAt ci
          have hgc : w7.cell? ⟨gb, ci, none⟩ = some (.int .i64 ((givL zs.length (gv zs cap ((ordS zs L).take k)).1).getD ci 0)) := by
            rw [HOW7.out.cellAt ci (by omega), List.getElem?_map, List.getD_eq_getElem?_getD, List.getElem?_eq_getElem (by rw [givL_length]; omega)]
            rfl
          generalize (givL zs.length (gv zs cap ((ordS zs L).take k)).1).getD ci 0 = g0 at *
          have i1 : (0 : Int) ≤ (ci : Int) := by omega
          have i2 : (ci : Int) < (zs.length : Int) := by omega
          have nsg : gb ≠ sb := HNE.out
          obtain ⟨a', c', hac, h0 | ⟨b, off, rfl, hb, hc⟩⟩ := HV.out.below hB7
          · omega
          simp only [Value.slice.injEq] at hac
          obtain ⟨rfl, _, rfl⟩ := hac
          have e2 := hc ci (by omega)
          unfold intF at e2
          clear hc
          go_wp2_with fail
          go_region
          have HZC : Hid (zs[ci] = zc zs ci) := show _ = _ from by unfold zc; simp [hci]
          have hrow8 := ((HOW7.out.stored ci (.int .i64 (min left cap))).1.kept (set1_grown _ sb 2 (.int .i64 zs[ci])) (.inr (by show some gb ≠ some sb; simpa using nsg))).drew
          rw [← List.map_set] at hrow8
          have hC8 := ((hC7.set_other (p := ⟨gb, ci, none⟩) nsg (.int .i64 (min left cap))).set 2 (.int .i64 zs[ci])).drew
          have hM8 := ((hM7.set_other (p := ⟨gb, ci, none⟩) (by show gb ≠ _; omega) (.int .i64 (min left cap))).set_other (p := ⟨sb, 2, none⟩) (by show sb ≠ _; omega) (.int .i64 zs[ci])).drew
          have hA8 := ((hA7.set_other (p := ⟨gb, ci, none⟩) (by show gb ≠ _; omega) (.int .i64 (min left cap))).set_other (p := ⟨sb, 2, none⟩) (by show sb ≠ _; omega) (.int .i64 zs[ci])).drew
          have hW8 := ((hW7.set_other (p := ⟨gb, ci, none⟩) (by show gb ≠ _; omega) (.int .i64 (min left cap))).set_other (p := ⟨sb, 2, none⟩) (by show sb ≠ _; omega) (.int .i64 zs[ci])).drew
          have hS8 := ((hS7.set_other (p := ⟨gb, ci, none⟩) (by show gb ≠ _; omega) (.int .i64 (min left cap))).set_other (p := ⟨sb, 2, none⟩) (by show sb ≠ _; omega) (.int .i64 zs[ci])).drew
          have hB8 := ((hB7.setCell (p := ⟨gb, ci, none⟩) (by show _ ≤ gb; omega) (.int .i64 (min left cap))).setCell (p := ⟨sb, 2, none⟩) (by show _ ≤ sb; omega) (.int .i64 zs[ci])).drew
          have hG8 := ((hb7.setCell (p := ⟨gb, ci, none⟩) (by show gb ≤ gb; omega) (.int .i64 (min left cap))).setCell (p := ⟨sb, 2, none⟩) (by show _ ≤ sb; omega) (.int .i64 zs[ci])).drew
          generalize ((w7.setCell ⟨gb, ci, none⟩ (.int .i64 (min left cap))).setCell ⟨sb, 2, none⟩ (.int .i64 zs[ci])).drew = W8 at *
          have hmb : 1 ≤ min left cap ∧ min left cap ≤ left := by omega
          generalize min left cap = mv at *
          generalize zs[ci] = zv at *
          obtain ⟨mb0, mb1⟩ := hmb
          have hgc8 : W8.cell? ⟨gb, ci, none⟩ = some (.int .i64 mv) := by
            rw [hrow8.cellAt ci (by omega), List.getElem?_map, List.getElem?_set]
            simp [givL_length, hci]
          obtain ⟨h1, h2, h3⟩ := HST.out
          rw [Int.toNat_natCast] at h1
          rw [← h1] at hrow8
          have hC9 : cellsAt W8 sb 47 #[.slice none 0 0, .int .i64 0, .int .i64 (gv zs cap ((ordS zs L).take (k + 1))).2.2] := by rw [h3, ← HZC.out]; exact hC8
          have HOW8 := Lib.hid hrow8
          have HL2 : Hid ((gv zs cap ((ordS zs L).take (k + 1))).2.1 = left - mv) := show _ = _ from h2
          have o1 := IntWalk.i64_in (left - mv) ⟨by omega, by omega⟩
          clear hrow8 h1 h2 h3 HST HZC hC8
          go_wp2_with fail
          go_roundw
          case rel => exact ⟨k + 1, left - mv, rfl, show _ ∧ _ ∧ _ from ⟨by omega, HL2.out.symm, by omega⟩, HOW8, hC9, hM8, hA8, hW8, hS8, hB8, hG8⟩
          case measure => simp [intOf]; omega
        · have hkl : k = (ordS zs L).length := by have := HK1.out.1; omega
          have htk : (ordS zs L).take k = ordS zs L := by rw [hkl]; exact List.take_length
          rw [htk] at hlk HF
          rw [ref_last v9 HK.out.ord HK.out.perm HK.out.r HK.out.asc hlk] at HF
          have HKL := Lib.hid hkl
          clear hgl hlk hk hkl htk
          go_wp2_with fail
          refine HF.out.mono ?_
          rintro e w7 ⟨rfl, hb7⟩
          go_wp2_with fail
          go_meet
          exact ⟨k, left, rfl, show _ ∧ _ ∧ _ from ⟨HK1.out.1, HK1.out.2.1, fun _ => HKL.out⟩, ownsRow_below HOW6.out hb7, hC6.below hb7, hM6.below hb7, hA6.below hb7, hS6.below hb7, below_trans hB6 hb7⟩
      · go_wp2_with fail
        go_meet
        exact ⟨k, left, rfl, show _ ∧ _ ∧ _ from ⟨HK1.out.1, HK1.out.2.1, fun h => by omega⟩, HOW6, hC6, hM6, hA6, hS6, hB6⟩
  case rest =>
    obtain ⟨k, left, rfl, HK1, HOW6, hC6, hM6, hA6, hS6, hB6⟩ := hcut
    have hgv : gv zs cap ((ordS zs L).take k) = gv zs cap (ordS zs L) := by
      by_cases hl : 0 < left
      · rw [HK1.out.2.2 hl, List.take_length]
      · refine (gv_take_done v9 ?_).symm
        have h := (gv_inv v9 ((ordS zs L).take k) (HK.out.desc.sublist (List.take_sublist _ _))).l0
        rw [← HK1.out.2.1] at h ⊢
        omega
    have HL1 : Hid (left = (gv zs cap (ordS zs L)).2.1) := show _ = _ from by rw [← hgv]; exact HK1.out.2.1
    rw [hgv] at HOW6 hC6
    clear hgv HK1
    have HMO : Hid (cellsM cx cy size cols rows xl xh yl yh = outsideB cx cy (1000 * size) cols rows xl xh yl yh) := show _ = _ from (outside_eq cx cy (1000 * size) cols rows xl xh yl yh (by omega)).symm
    obtain ⟨m0, m1, m2, m3, m4, m5⟩ := cells6 hM6
    obtain ⟨x0, x1, x2, x3⟩ := cells4 hA6
    by_cases hl : 0 < left
    · have hRO := Lib.hid (fun W => HRO.out W)
      rw [← HMO.out] at hRO
      obtain ⟨s0, s1, s2⟩ := cells3 hS6
      have f0 := hS6.frozen 0
      have f1 := hS6.frozen 1
      have f2 := hS6.frozen 2
      cases hmore : cellsM cx cy size cols rows xl xh yl yh
      · rw [hmore] at hRO
        go_wp2_with fail
        refine (hRO.out _).mono ?_
        rintro e w7 ⟨rfl, hb7⟩
        obtain ⟨s0, s1, s2⟩ := cells3 (hS6.below hb7)
        have f0 := (hS6.below hb7).frozen 0
        have f1 := (hS6.below hb7).frozen 1
        have f2 := (hS6.below hb7).frozen 2
        go_wp2_with fail
        have hE9 : mostE zs 0 cap L false = 9 := by unfold mostE; rw [if_pos rfl, if_pos ⟨by rw [← HL1.out]; exact hl, rfl⟩]
        have hQ : mostQ zs 0 cap L false = [] := by unfold mostQ; rw [hE9]; exact if_neg (by omega)
        have hO : mostO zs 0 cap L false = 0 := by unfold mostO; rw [hE9]; exact if_neg (by omega)
        have hP : mostP zs 0 cap L false = 0 := by unfold mostP; rw [hE9]; exact if_neg (by omega)
        have hN : mostN zs 0 cap L false = 0 := by unfold mostN; rw [hE9]; exact if_neg (by omega)
        rw [hmore, hE9, hQ, hO, hP, hN]
        refine bodyPost_ret (v := .tuple #[.agg #[.slice none 0 0, .int .i64 0, .int .i64 0], .int .i64 0, .int .i64 9]) (by simp [results, Tryz.results50, go_sem, s0, s1, s2]) rfl ⟨_, rfl, ⟨none, 0, rfl, .inl rfl⟩, ?_⟩
        exact (((below_trans hB6 hb7).setCell (by show w.heap.size ≤ w.heap.size + 1 + 1 + 1; omega) _).setCell (by show w.heap.size ≤ w.heap.size + 1 + 1 + 1; omega) _).setCell (by show w.heap.size ≤ w.heap.size + 1 + 1 + 1; omega) _
      · rw [hmore] at hRO
        go_wp2_with fail
        refine (hRO.out _).mono ?_
        rintro e w7 ⟨rfl, hb7⟩
        have hC7 := hC6.below hb7
        have hM7 := hM6.below hb7
        have hS7 := hS6.below hb7
        have HOW7 := ownsRow_below HOW6.out hb7
        have hB7 := below_trans hB6 hb7
        clear hC6 hM6 hS6 HOW6 hB6 hb7 s0 s1 s2 f0 f1 f2 m0 m1 m2 m3 m4 m5 x0 x1 x2 x3
        obtain ⟨q0, q1, q2⟩ := cells3 hC7
        have e1 := hC7.frozen 1
        have e2 := hC7.frozen 2
        go_upto_region 17 with fail
        have HFIN : Hid (∀ v w', SpansAt w' v (partsOf (givL zs.length (gv zs cap (ordS zs L)).1) zs.length) → Below w.heap.size w w' → MostSpr w (mostQ zs 0 cap L (cellsM cx cy size cols rows xl xh yl yh)) (mostO zs 0 cap L (cellsM cx cy size cols rows xl xh yl yh)) (mostP zs 0 cap L (cellsM cx cy size cols rows xl xh yl yh)) (mostN zs 0 cap L (cellsM cx cy size cols rows xl xh yl yh)) (mostE zs 0 cap L (cellsM cx cy size cols rows xl xh yl yh)) (.returned (.tuple #[.agg #[v, .int .i64 left, .int .i64 0], .int .i64 (ppl zs (partsOf (givL zs.length (gv zs cap (ordS zs L)).1) zs.length)), .int .i64 0])) w') := show ∀ _ _, _ → _ → _ from fun v w' h3 h4 =>
          mostSpr_ref HK.out v9 (fun h => by have h2 := h.2; rw [hmore] at h2; cases h2) HL1.out.symm (by unfold gvPrice; rw [← HL1.out, if_pos hl]) h3 h4
        have HGL : Hid ((givL zs.length (gv zs cap (ordS zs L)).1).length = zs.length) := show _ = _ from givL_length _ _
        have HGB : Hid (∀ k : Nat, k < zs.length → 0 ≤ gvn (givL zs.length (gv zs cap (ordS zs L)).1) k ∧ gvn (givL zs.length (gv zs cap (ordS zs L)).1) k ≤ 1000000) := show ∀ k : Nat, _ → _ from fun k _ => givL_bd v9 v10 HK.out.ord (fun c hcm => HK.out.r c (HK.out.perm.mem_iff.1 hcm)) k (by omega)
        have nsg : gb ≠ sb := HNE.out
        have hCX := (hC7.set 1 (.int .i64 left)).set 2 (.int .i64 0)
        simp only [List.setIfInBounds_toArray, List.set_cons_zero, List.set_cons_succ] at hCX
        have hMX := (hM7.set_other (p := ⟨sb, 1, none⟩) (by show sb ≠ _; omega) (.int .i64 left)).set_other (p := ⟨sb, 2, none⟩) (by show sb ≠ _; omega) (.int .i64 0)
        have hSX := (hS7.set_other (p := ⟨sb, 1, none⟩) (by show sb ≠ _; omega) (.int .i64 left)).set_other (p := ⟨sb, 2, none⟩) (by show sb ≠ _; omega) (.int .i64 0)
        have hBX := (hB7.setCell (p := ⟨sb, 1, none⟩) (by show _ ≤ sb; omega) (.int .i64 left)).setCell (p := ⟨sb, 2, none⟩) (by show _ ≤ sb; omega) (.int .i64 0)
        have HOWX := Lib.hid ((HOW7.kept (set1_grown _ sb 1 (.int .i64 left)) (.inr (by show some gb ≠ some sb; simpa using nsg))).kept (set1_grown _ sb 2 (.int .i64 0)) (.inr (by show some gb ≠ some sb; simpa using nsg)))
        generalize ((w7.setCell ⟨sb, 1, none⟩ (.int .i64 left)).setCell ⟨sb, 2, none⟩ (.int .i64 0)) = X at *
        generalize givL zs.length (gv zs cap (ordS zs L)).1 = G at *
        clear HL1 hC7 hM7 hS7 hB7 HOW7 q0 q1 q2 e1 e2
        have hgb' : gb ≤ sb := hs4
        obtain ⟨ti, hj, jz0, jz1, jz2⟩ := info_parts Tryz.info121
        go_wp2_with fail
        have HQ0 : Hid (spc (partsOf G 0) = [] ∧ (partsOf G 0).length = 0) := show _ ∧ _ from ⟨rfl, rfl⟩
        go_loopw [15] (fun i wx => ∃ (k : Nat) (v : Value), k ≤ zs.length ∧ i = .int .i64 k ∧ cellsAt wx sb 47 #[v, .int .i64 left, .int .i64 0] ∧ Hid (wx.ownsRow X.heap.size 121 2 v (partsOf G k).length (spc (partsOf G k))) ∧ Hid (Keep5 X wx sb sb) ∧ Below w.heap.size w wx) (fun i _ => zs.length - (intOf i).toNat)
        case atStart => exact ⟨0, .slice none 0 0, Nat.zero_le _, rfl, hCX, by show World.ownsRow _ _ _ _ _ _ _; rw [HQ0.out.1, HQ0.out.2]; exact World.ownsRow_nil _ _ _ _, show Keep5 _ _ _ _ from ⟨Nat.le_refl _, fun _ _ _ _ => rfl⟩, hBX⟩
        case round =>
          obtain ⟨k, v, hk, rfl, hC, HP, HKP, hB⟩ := hrel
          by_cases hlt : k < zs.length
          · have hgk := HOWX.out.cellAt k (by omega)
            rw [List.getElem?_map, List.getElem?_eq_getElem (by rw [HGL.out]; exact hlt)] at hgk
            have hgv : Hid (gvn G k = G[k]'(by rw [HGL.out]; exact hlt)) := show _ = _ from by unfold gvn; rw [Int.toNat_natCast, List.getD_eq_getElem?_getD, List.getElem?_eq_getElem (by rw [HGL.out]; exact hlt)]; rfl
            have HGK : Hid (X.cell? ⟨gb, k, none⟩ = some (.int .i64 (gvn G k))) := show _ = _ from by rw [hgv.out]; exact hgk
            have hgc : wr.cell? ⟨gb, k, none⟩ = some (.int .i64 (gvn G k)) := HKP.out.cell HGK.out (by show gb ≠ sb; exact HNE.out) (by show gb ≠ sb; exact HNE.out)
            have HPS := Lib.hid (partsOf_succ G k)
            obtain ⟨gb0, gb1⟩ := HGB.out k (by omega)
            clear hgk hgv
            generalize gvn G k = gk at *
            have i1 : (0 : Int) ≤ (k : Int) := by omega
            have i2 : (k : Int) < (zs.length : Int) := by omega
            by_cases hp : 0 < gk
            · rw [if_pos hp] at HPS
              have c0 := hC.cell 0
              go_wp2_with fail
              have hC0 := hC.drew
              have HP0 := Lib.hid (World.ownsRow.drew HP.out)
              have HKP0 : Hid (Keep5 X wr.drew sb sb) := show Keep5 _ _ _ _ from ⟨HKP.out.1, fun j a b c => HKP.out.2 j a b c⟩
              have hB0 := hB.drew
              have hgc0 : wr.drew.cell? ⟨gb, k, none⟩ = some (.int .i64 gk) := hgc
              have hK : S21 sb gb k v gk wr.drew := ⟨hC0.cell 0, hgc0⟩
              refine wp_region_noPanic ?_
              refine wp_region_L 11 (S21 sb gb k v gk) (by kernel_rfl) ?_
              generalize wr.drew = wd at *
              clear hC HP HKP hB hgc c0
              refine wpAnyL_take (i := 0) (v := ?_) (ch := [1, 9, 11]) rfl (by kernel_rfl) (by kernel_rfl) (by kernel_rfl) (by kernel_rfl) (fun _ _ _ h => h) (Or.inl ⟨by rfl, ?_⟩) hK ?_; rotate_left; (focus (intro w' hSw; obtain ⟨z0, z1⟩ := hSw; go_simp; (try with_reducible rfl))); (try simp only [Act.put, List.setIfInBounds_toArray, List.set_cons_zero, List.set_cons_succ])
              refine wpAnyL_take (i := 1) (v := ?_) (ch := [9, 11]) rfl (by kernel_rfl) (by kernel_rfl) (by kernel_rfl) (by kernel_rfl) (fun _ _ _ h => h) (Or.inl ⟨by rfl, ?_⟩) hK ?_; rotate_left; (focus (intro w' hSw; obtain ⟨z0, z1⟩ := hSw; go_simp; (try with_reducible rfl))); (try simp only [Act.put, List.setIfInBounds_toArray, List.set_cons_zero, List.set_cons_succ])
              refine wpAnyL_take (i := 2) (v := ?_) (ch := [7, 8, 9, 11]) rfl (by kernel_rfl) (by kernel_rfl) (by kernel_rfl) (by kernel_rfl) (fun _ _ _ h => h) (Or.inl ⟨by rfl, ?_⟩) hK ?_; rotate_left; (focus (intro w' hSw; obtain ⟨z0, z1⟩ := hSw; go_simp; (try with_reducible rfl))); (try simp only [Act.put, List.setIfInBounds_toArray, List.set_cons_zero, List.set_cons_succ])
              refine wpAnyL_take (i := 3) (v := ?_) (ch := [5, 6, 7, 8, 9, 11]) rfl (by kernel_rfl) (by kernel_rfl) (by kernel_rfl) (by kernel_rfl) (fun _ _ _ h => h) (Or.inl ⟨by rfl, ?_⟩) hK ?_; rotate_left; (focus (intro w' hSw; obtain ⟨z0, z1⟩ := hSw; go_simp; (try with_reducible rfl))); (try simp only [Act.put, List.setIfInBounds_toArray, List.set_cons_zero, List.set_cons_succ])
              refine wpAnyL_take (i := 4) (v := ?_) (ch := [5, 6, 7, 8, 9, 11]) rfl (by kernel_rfl) (by kernel_rfl) (by kernel_rfl) (by kernel_rfl) (fun _ _ _ h => h) (Or.inl ⟨by rfl, ?_⟩) hK ?_; rotate_left; (focus (intro w' hSw; obtain ⟨z0, z1⟩ := hSw; go_simp; (try with_reducible rfl))); (try simp only [Act.put, List.setIfInBounds_toArray, List.set_cons_zero, List.set_cons_succ])
              refine wpAnyL_take (i := 5) (v := ?_) (ch := [6, 7, 8, 9, 11]) rfl (by kernel_rfl) (by kernel_rfl) (by kernel_rfl) (by kernel_rfl) (fun _ _ _ h => h) (Or.inl ⟨by rfl, ?_⟩) hK ?_; rotate_left; (focus (intro w' hSw; obtain ⟨z0, z1⟩ := hSw; go_simp; (try with_reducible rfl))); (try simp only [Act.put, List.setIfInBounds_toArray, List.set_cons_zero, List.set_cons_succ])
              refine wpAnyL_take (i := 6) (v := ?_) (ch := [7, 8, 9, 11]) rfl (by kernel_rfl) (by kernel_rfl) (by kernel_rfl) (by kernel_rfl) (fun _ _ _ h => h) (Or.inl ⟨by rfl, ?_⟩) hK ?_; rotate_left; (focus (intro w' hSw; obtain ⟨z0, z1⟩ := hSw; go_simp; (try with_reducible rfl))); (try simp only [Act.put, List.setIfInBounds_toArray, List.set_cons_zero, List.set_cons_succ])
              refine wpAnyL_take (i := 7) (v := ?_) (ch := [8, 9, 11]) rfl (by kernel_rfl) (by kernel_rfl) (by kernel_rfl) (by kernel_rfl) (fun _ _ _ h => h) (Or.inl ⟨by rfl, ?_⟩) hK ?_; rotate_left; (focus (intro w' hSw; obtain ⟨z0, z1⟩ := hSw; go_simp; (try with_reducible rfl))); (try simp only [Act.put, List.setIfInBounds_toArray, List.set_cons_zero, List.set_cons_succ])
              refine wpAnyL_one (i := 8) (by kernel_rfl) rfl (fun K' hK' => ?_)
              go_simp
              refine hK'.out _ _ (fun _ => ⟨alloc_cell hK.1 _, alloc_cell hK.2 _⟩) ?_
              clear hK' K'
              (try simp only [Act.put, List.setIfInBounds_toArray, List.set_cons_zero, List.set_cons_succ])
              refine wpAnyL_one (i := 9) (by kernel_rfl) rfl (fun K' hK' => ?_)
              have hpl : (partsOf G k).length ≤ 400 := Nat.le_trans (partsOf_len G k) (by omega)
              refine step_append_lies _ (by rfl) _ _ _ (by rfl) X.heap.size 121 ti _ 2 16 Tryz.underlying45 hj jz0 jz1 jz2 rfl (by omega) v (partsOf G k).length _ (by rfl) (World.ownsRow.alloc HP0.out _) ⟨wd.heap.size, 0, none⟩ 1 1 [.int .i64 k, .int .i64 gk] (by rfl) (by rfl) (World.news_of_block (cs := #[.int .i64 k, .int .i64 gk]) (t := 121) (fr := (0, 0)) (heap_alloc_new wd _)) (by simp [Value.oneCell']) (by omega) (by unfold maxLen; omega) (by omega) (by have := HKP0.out.1; simp; omega) (wd.heap.size + 1) (by simp) ?_
              intro g7 cap7 w7 hown7 hgrow hat hlt7
              have hu : ∀ g', v.ownBlock = some g' → X.heap.size ≤ g' := fun g' hg' => (HP0.out.lt g' hg').1
              have hsx : X.heap.size ≤ wd.heap.size := HKP0.out.1
              have hsbx : sb < X.heap.size := hCX.lt
              have far : ∀ j, j < X.heap.size → some j ≠ v.ownBlock := fun j hj e => by have := hu j e.symm; omega
              have hC7 : cellsAt w7 sb 47 #[v, .int .i64 left, .int .i64 0] := (hgrow.block _ (by simp; omega) (far _ (by omega))).trans ((Below.heap_alloc _ _ _ (by omega)).trans hC0)
              have hkp7 := (HKP0.out.alloc (.cells #[.int .i64 k, .int .i64 gk] 121)).grown hgrow hu
              have hB7 := below_grown (balloc hB0 _) hgrow (fun g hg => by have := hu g hg; omega)
              have hgc7 : w7.cell? ⟨gb, k, none⟩ = some (.int .i64 gk) := hkp7.cell HGK.out (by show gb ≠ sb; exact HNE.out) (by show gb ≠ sb; exact HNE.out)
              refine hK'.out _ _ (fun _ => ⟨hC7.cell 0, hgc7⟩) ?_
              clear hK' K'
              (try simp only [Act.put, List.setIfInBounds_toArray, List.set_cons_zero, List.set_cons_succ])
              have hK : S21 sb gb k v gk w7 := ⟨hC7.cell 0, hgc7⟩
              refine wpAnyL_take (i := 10) (v := ?_) (ch := [11]) rfl (by kernel_rfl) (by kernel_rfl) (by kernel_rfl) (by kernel_rfl) (fun _ _ _ h => h) (Or.inl ⟨by rfl, ?_⟩) hK ?_; rotate_left; (focus (intro w' hSw; obtain ⟨z0, z1⟩ := hSw; go_simp; (try with_reducible rfl))); (try simp only [Act.put, List.setIfInBounds_toArray, List.set_cons_zero, List.set_cons_succ])
              have f0 := hC7.frozen 0
              have c0 := hC7.cell 0
              refine wpAnyL_one (i := 11) (by kernel_rfl) rfl (fun K' hK' => ?_)
              go_simp
              refine hK'.out _ _ (fun h => Bool.noConfusion (show true = false from h)) ?_
              clear hK' K'
              refine wpAnyL_done (by kernel_rfl) (NoPanic.normal ?_) _
              (try simp only [Act.put, List.setIfInBounds_toArray, List.set_cons_zero, List.set_cons_succ])
              have hC8 := hC7.set 0 (.slice (some ⟨g7, 0, none⟩) ((partsOf G k).length + 1) cap7)
              simp only [List.setIfInBounds_toArray, List.set_cons_zero, List.set_cons_succ] at hC8
              have hg7 : X.heap.size ≤ g7 := by
                rcases hat with h | h
                · exact hu _ h
                · omega
              have HP8 := Lib.hid (hown7.kept (set1_grown w7 sb 0 (.slice (some ⟨g7, 0, none⟩) ((partsOf G k).length + 1) cap7)) (.inr (fun e => by simp [Value.ownBlock] at e; omega)))
              have HKP8 : Hid (Keep5 X (w7.setCell ⟨sb, 0, none⟩ (.slice (some ⟨g7, 0, none⟩) ((partsOf G k).length + 1) cap7)) sb sb) := show Keep5 _ _ _ _ from hkp7.set (p := ⟨sb, 0, none⟩) (.inl rfl) _
              have hB8 : Below w.heap.size w (w7.setCell ⟨sb, 0, none⟩ (.slice (some ⟨g7, 0, none⟩) ((partsOf G k).length + 1) cap7)) := hB7.setCell (by show w.heap.size ≤ sb; omega) _
              clear hgrow hat far hC7 hkp7 hB7 hown7 hu hK hC0 HP0 HKP0 hB0 hgc0 hgc7 f0 c0
              generalize (w7.setCell ⟨sb, 0, none⟩ (.slice (some ⟨g7, 0, none⟩) ((partsOf G k).length + 1) cap7)) = W8 at *
              go_wp2_with fail
              go_roundw
              case rel => exact ⟨k + 1, _, by omega, by go_num, hC8, by show World.ownsRow _ _ _ _ _ _ _; rw [HPS.out]; simp only [List.length_append, List.length_cons, List.length_nil, spc_snoc]; exact HP8.out, HKP8, hB8⟩
              case measure => simp [intOf]; omega
            · rw [if_neg hp, List.append_nil] at HPS
              go_wp2_with fail
              go_roundw
              case rel => exact ⟨k + 1, v, by omega, by go_num, hC, by show World.ownsRow _ _ _ _ _ _ _; rw [HPS.out]; exact HP.out, HKP, hB⟩
              case measure => simp [intOf]; omega
          · obtain rfl : k = zs.length := by omega
            obtain ⟨va, vc, rfl, hx⟩ := id (parts_at_row HP.out)
            clear hx
            have hsbx : sb < X.heap.size := hCX.lt
            have hM9 : cellsAt wr w.heap.size 42 #[.int .i64 cx, .int .i64 cy, .int .i64 size, .int .i64 cols, .int .i64 rows, .slice pa zs.length pc] := (HKP.out.2 _ (by omega) (by omega) (by omega)).trans hMX
            have hS9 : cellsAt wr (w.heap.size + 1 + 1 + 1) 47 #[.slice none 0 0, .int .i64 0, .int .i64 0] := (HKP.out.2 _ (by omega) (by omega) (by omega)).trans hSX
            have hPA : PartsOK zs (partsOf G zs.length) := fun q hq => by
              obtain ⟨q1, q2, q3, q4⟩ := (partsOf_mem G zs.length q).1 hq
              have := HGB.out q.1.toNat (by omega)
              rw [show ((q.1.toNat : Nat) : Int) = q.1 by omega] at this
              exact ⟨q1, q2, by omega, by omega⟩
            have hpl : (partsOf G zs.length).length ≤ 1000000 := Nat.le_trans (partsOf_len G zs.length) (by omega)
            have HP2 := Lib.hid (HPP.out wr.drew (.slice va (partsOf G zs.length).length vc) (left) (0) (partsOf G zs.length) (HV.out.below hB.drew) ((parts_at_row HP.out).below (Below.refl _ _).drew) hPA hpl)
            have HVN : Hid ((Value.slice va (partsOf G zs.length).length vc).ownBlock = none ∨ (Value.slice va (partsOf G zs.length).length vc).ownBlock ≠ some (w.heap.size + 1 + 1 + 1)) := show _ ∨ _ from by
              cases hob : (Value.slice va (partsOf G zs.length).length vc).ownBlock with
              | none => exact .inl rfl
              | some g' => exact .inr (fun e => by have := (HP.out.lt g' hob).1; have : g' = w.heap.size + 1 + 1 + 1 := Option.some.inj e; omega)
            obtain ⟨m0, m1, m2, m3, m4, m5⟩ := cells6 hM9
            obtain ⟨s0, s1, s2⟩ := cells3 hC
            obtain ⟨t0, t1, t2⟩ := cells3 hS9
            have f0 := hS9.frozen 0
            have f1 := hS9.frozen 1
            have f2 := hS9.frozen 2
            have hSlt := hS9.lt
            clear hPA hpl hM9 hS9
            go_wp2_with fail
            go_region_with (go_at_call 123; refine HP2.out.mono ?_; rintro e w9 ⟨rfl, hb9⟩; have t0 := below_cell hb9 t0; have t1 := below_cell hb9 t1; have t2 := below_cell hb9 t2; have f0 := (hb9.frozen (p := ⟨w.heap.size + 1 + 1 + 1, 0, none⟩) hSlt).trans f0; have f1 := (hb9.frozen (p := ⟨w.heap.size + 1 + 1 + 1, 1, none⟩) hSlt).trans f1; have f2 := (hb9.frozen (p := ⟨w.heap.size + 1 + 1 + 1, 2, none⟩) hSlt).trans f2; have s0 := below_cell hb9 s0; have s1 := below_cell hb9 s1; have s2 := below_cell hb9 s2)
            all_goals
              go_wp2_with fail
              refine bodyPost_ret (v := .tuple #[.agg #[.slice va (partsOf G zs.length).length vc, .int .i64 (left), .int .i64 (0)], .int .i64 (ppl zs (partsOf G zs.length)), .int .i64 0]) (by simp [results, Tryz.results50, go_sem, t0, t1, t2]) rfl (HFIN.out _ _ ?_ ?_)
              · exact parts_at_row ((ownsRow_below HP.out (below_drew' hb9)).kept (set3_grown _ _ _ _ _) HVN.out)
              · exact (below_trans hB (below_drew' hb9)).grown (set3_grown _ _ _ _ _) (below_trans hB (below_drew' hb9)).size (fun k e => by cases e; omega)
    · go_upto_region 17 with fail
      have hlz : (gv zs cap (ordS zs L)).2.1 = 0 := by
        have h := (gv_inv v9 (ordS zs L) HK.out.desc).l0
        rw [← HL1.out] at h ⊢
        omega
      have HFIN : Hid (∀ v w', SpansAt w' v (partsOf (givL zs.length (gv zs cap (ordS zs L)).1) zs.length) → Below w.heap.size w w' → MostSpr w (mostQ zs 0 cap L (cellsM cx cy size cols rows xl xh yl yh)) (mostO zs 0 cap L (cellsM cx cy size cols rows xl xh yl yh)) (mostP zs 0 cap L (cellsM cx cy size cols rows xl xh yl yh)) (mostN zs 0 cap L (cellsM cx cy size cols rows xl xh yl yh)) (mostE zs 0 cap L (cellsM cx cy size cols rows xl xh yl yh)) (.returned (.tuple #[.agg #[v, .int .i64 0, .int .i64 (gv zs cap (ordS zs L)).2.2], .int .i64 (ppl zs (partsOf (givL zs.length (gv zs cap (ordS zs L)).1) zs.length)), .int .i64 0])) w') := show ∀ _ _, _ → _ → _ from fun v w' h3 h4 =>
        mostSpr_ref HK.out v9 (fun h => by omega) hlz (by unfold gvPrice; rw [hlz, if_neg (by omega)]) h3 h4
      have HGL : Hid ((givL zs.length (gv zs cap (ordS zs L)).1).length = zs.length) := show _ = _ from givL_length _ _
      have HGB : Hid (∀ k : Nat, k < zs.length → 0 ≤ gvn (givL zs.length (gv zs cap (ordS zs L)).1) k ∧ gvn (givL zs.length (gv zs cap (ordS zs L)).1) k ≤ 1000000) := show ∀ k : Nat, _ → _ from fun k _ => givL_bd v9 v10 HK.out.ord (fun c hcm => HK.out.r c (HK.out.perm.mem_iff.1 hcm)) k (by omega)
      have hCX := hC6
      have hMX := hM6
      have hSX := hS6
      have hBX := hB6
      have HOWX := HOW6
      clear hlz HL1 hC6 hM6 hS6 hB6 HOW6 hl m0 m1 m2 m3 m4 m5 x0 x1 x2 x3 hA6
      generalize wc = X at *
      generalize givL zs.length (gv zs cap (ordS zs L)).1 = G at *
      generalize (gv zs cap (ordS zs L)).2.2 = pr at *
      have hgb' : gb ≤ sb := hs4
      obtain ⟨ti, hj, jz0, jz1, jz2⟩ := info_parts Tryz.info121
      go_wp2_with fail
      have HQ0 : Hid (spc (partsOf G 0) = [] ∧ (partsOf G 0).length = 0) := show _ ∧ _ from ⟨rfl, rfl⟩
      go_loopw [15] (fun i wx => ∃ (k : Nat) (v : Value), k ≤ zs.length ∧ i = .int .i64 k ∧ cellsAt wx sb 47 #[v, .int .i64 0, .int .i64 pr] ∧ Hid (wx.ownsRow X.heap.size 121 2 v (partsOf G k).length (spc (partsOf G k))) ∧ Hid (Keep5 X wx sb sb) ∧ Below w.heap.size w wx) (fun i _ => zs.length - (intOf i).toNat)
      case atStart => exact ⟨0, .slice none 0 0, Nat.zero_le _, rfl, hCX, by show World.ownsRow _ _ _ _ _ _ _; rw [HQ0.out.1, HQ0.out.2]; exact World.ownsRow_nil _ _ _ _, show Keep5 _ _ _ _ from ⟨Nat.le_refl _, fun _ _ _ _ => rfl⟩, hBX⟩
      case round =>
        obtain ⟨k, v, hk, rfl, hC, HP, HKP, hB⟩ := hrel
        by_cases hlt : k < zs.length
        · have hgk := HOWX.out.cellAt k (by omega)
          rw [List.getElem?_map, List.getElem?_eq_getElem (by rw [HGL.out]; exact hlt)] at hgk
          have hgv : Hid (gvn G k = G[k]'(by rw [HGL.out]; exact hlt)) := show _ = _ from by unfold gvn; rw [Int.toNat_natCast, List.getD_eq_getElem?_getD, List.getElem?_eq_getElem (by rw [HGL.out]; exact hlt)]; rfl
          have HGK : Hid (X.cell? ⟨gb, k, none⟩ = some (.int .i64 (gvn G k))) := show _ = _ from by rw [hgv.out]; exact hgk
          have hgc : wr.cell? ⟨gb, k, none⟩ = some (.int .i64 (gvn G k)) := HKP.out.cell HGK.out (by show gb ≠ sb; exact HNE.out) (by show gb ≠ sb; exact HNE.out)
          have HPS := Lib.hid (partsOf_succ G k)
          obtain ⟨gb0, gb1⟩ := HGB.out k (by omega)
          clear hgk hgv
          generalize gvn G k = gk at *
          have i1 : (0 : Int) ≤ (k : Int) := by omega
          have i2 : (k : Int) < (zs.length : Int) := by omega
          by_cases hp : 0 < gk
          · rw [if_pos hp] at HPS
            have c0 := hC.cell 0
            go_wp2_with fail
            have hC0 := hC.drew
            have HP0 := Lib.hid (World.ownsRow.drew HP.out)
            have HKP0 : Hid (Keep5 X wr.drew sb sb) := show Keep5 _ _ _ _ from ⟨HKP.out.1, fun j a b c => HKP.out.2 j a b c⟩
            have hB0 := hB.drew
            have hgc0 : wr.drew.cell? ⟨gb, k, none⟩ = some (.int .i64 gk) := hgc
            have hK : S21 sb gb k v gk wr.drew := ⟨hC0.cell 0, hgc0⟩
            refine wp_region_noPanic ?_
            refine wp_region_L 11 (S21 sb gb k v gk) (by kernel_rfl) ?_
            generalize wr.drew = wd at *
            clear hC HP HKP hB hgc c0
            refine wpAnyL_take (i := 0) (v := ?_) (ch := [1, 9, 11]) rfl (by kernel_rfl) (by kernel_rfl) (by kernel_rfl) (by kernel_rfl) (fun _ _ _ h => h) (Or.inl ⟨by rfl, ?_⟩) hK ?_; rotate_left; (focus (intro w' hSw; obtain ⟨z0, z1⟩ := hSw; go_simp; (try with_reducible rfl))); (try simp only [Act.put, List.setIfInBounds_toArray, List.set_cons_zero, List.set_cons_succ])
            refine wpAnyL_take (i := 1) (v := ?_) (ch := [9, 11]) rfl (by kernel_rfl) (by kernel_rfl) (by kernel_rfl) (by kernel_rfl) (fun _ _ _ h => h) (Or.inl ⟨by rfl, ?_⟩) hK ?_; rotate_left; (focus (intro w' hSw; obtain ⟨z0, z1⟩ := hSw; go_simp; (try with_reducible rfl))); (try simp only [Act.put, List.setIfInBounds_toArray, List.set_cons_zero, List.set_cons_succ])
            refine wpAnyL_take (i := 2) (v := ?_) (ch := [7, 8, 9, 11]) rfl (by kernel_rfl) (by kernel_rfl) (by kernel_rfl) (by kernel_rfl) (fun _ _ _ h => h) (Or.inl ⟨by rfl, ?_⟩) hK ?_; rotate_left; (focus (intro w' hSw; obtain ⟨z0, z1⟩ := hSw; go_simp; (try with_reducible rfl))); (try simp only [Act.put, List.setIfInBounds_toArray, List.set_cons_zero, List.set_cons_succ])
            refine wpAnyL_take (i := 3) (v := ?_) (ch := [5, 6, 7, 8, 9, 11]) rfl (by kernel_rfl) (by kernel_rfl) (by kernel_rfl) (by kernel_rfl) (fun _ _ _ h => h) (Or.inl ⟨by rfl, ?_⟩) hK ?_; rotate_left; (focus (intro w' hSw; obtain ⟨z0, z1⟩ := hSw; go_simp; (try with_reducible rfl))); (try simp only [Act.put, List.setIfInBounds_toArray, List.set_cons_zero, List.set_cons_succ])
            refine wpAnyL_take (i := 4) (v := ?_) (ch := [5, 6, 7, 8, 9, 11]) rfl (by kernel_rfl) (by kernel_rfl) (by kernel_rfl) (by kernel_rfl) (fun _ _ _ h => h) (Or.inl ⟨by rfl, ?_⟩) hK ?_; rotate_left; (focus (intro w' hSw; obtain ⟨z0, z1⟩ := hSw; go_simp; (try with_reducible rfl))); (try simp only [Act.put, List.setIfInBounds_toArray, List.set_cons_zero, List.set_cons_succ])
            refine wpAnyL_take (i := 5) (v := ?_) (ch := [6, 7, 8, 9, 11]) rfl (by kernel_rfl) (by kernel_rfl) (by kernel_rfl) (by kernel_rfl) (fun _ _ _ h => h) (Or.inl ⟨by rfl, ?_⟩) hK ?_; rotate_left; (focus (intro w' hSw; obtain ⟨z0, z1⟩ := hSw; go_simp; (try with_reducible rfl))); (try simp only [Act.put, List.setIfInBounds_toArray, List.set_cons_zero, List.set_cons_succ])
            refine wpAnyL_take (i := 6) (v := ?_) (ch := [7, 8, 9, 11]) rfl (by kernel_rfl) (by kernel_rfl) (by kernel_rfl) (by kernel_rfl) (fun _ _ _ h => h) (Or.inl ⟨by rfl, ?_⟩) hK ?_; rotate_left; (focus (intro w' hSw; obtain ⟨z0, z1⟩ := hSw; go_simp; (try with_reducible rfl))); (try simp only [Act.put, List.setIfInBounds_toArray, List.set_cons_zero, List.set_cons_succ])
            refine wpAnyL_take (i := 7) (v := ?_) (ch := [8, 9, 11]) rfl (by kernel_rfl) (by kernel_rfl) (by kernel_rfl) (by kernel_rfl) (fun _ _ _ h => h) (Or.inl ⟨by rfl, ?_⟩) hK ?_; rotate_left; (focus (intro w' hSw; obtain ⟨z0, z1⟩ := hSw; go_simp; (try with_reducible rfl))); (try simp only [Act.put, List.setIfInBounds_toArray, List.set_cons_zero, List.set_cons_succ])
            refine wpAnyL_one (i := 8) (by kernel_rfl) rfl (fun K' hK' => ?_)
            go_simp
            refine hK'.out _ _ (fun _ => ⟨alloc_cell hK.1 _, alloc_cell hK.2 _⟩) ?_
            clear hK' K'
            (try simp only [Act.put, List.setIfInBounds_toArray, List.set_cons_zero, List.set_cons_succ])
            refine wpAnyL_one (i := 9) (by kernel_rfl) rfl (fun K' hK' => ?_)
            have hpl : (partsOf G k).length ≤ 400 := Nat.le_trans (partsOf_len G k) (by omega)
            refine step_append_lies _ (by rfl) _ _ _ (by rfl) X.heap.size 121 ti _ 2 16 Tryz.underlying45 hj jz0 jz1 jz2 rfl (by omega) v (partsOf G k).length _ (by rfl) (World.ownsRow.alloc HP0.out _) ⟨wd.heap.size, 0, none⟩ 1 1 [.int .i64 k, .int .i64 gk] (by rfl) (by rfl) (World.news_of_block (cs := #[.int .i64 k, .int .i64 gk]) (t := 121) (fr := (0, 0)) (heap_alloc_new wd _)) (by simp [Value.oneCell']) (by omega) (by unfold maxLen; omega) (by omega) (by have := HKP0.out.1; simp; omega) (wd.heap.size + 1) (by simp) ?_
            intro g7 cap7 w7 hown7 hgrow hat hlt7
            have hu : ∀ g', v.ownBlock = some g' → X.heap.size ≤ g' := fun g' hg' => (HP0.out.lt g' hg').1
            have hsx : X.heap.size ≤ wd.heap.size := HKP0.out.1
            have hsbx : sb < X.heap.size := hCX.lt
            have far : ∀ j, j < X.heap.size → some j ≠ v.ownBlock := fun j hj e => by have := hu j e.symm; omega
            have hC7 : cellsAt w7 sb 47 #[v, .int .i64 0, .int .i64 pr] := (hgrow.block _ (by simp; omega) (far _ (by omega))).trans ((Below.heap_alloc _ _ _ (by omega)).trans hC0)
            have hkp7 := (HKP0.out.alloc (.cells #[.int .i64 k, .int .i64 gk] 121)).grown hgrow hu
            have hB7 := below_grown (balloc hB0 _) hgrow (fun g hg => by have := hu g hg; omega)
            have hgc7 : w7.cell? ⟨gb, k, none⟩ = some (.int .i64 gk) := hkp7.cell HGK.out (by show gb ≠ sb; exact HNE.out) (by show gb ≠ sb; exact HNE.out)
            refine hK'.out _ _ (fun _ => ⟨hC7.cell 0, hgc7⟩) ?_
            clear hK' K'
            (try simp only [Act.put, List.setIfInBounds_toArray, List.set_cons_zero, List.set_cons_succ])
            have hK : S21 sb gb k v gk w7 := ⟨hC7.cell 0, hgc7⟩
            refine wpAnyL_take (i := 10) (v := ?_) (ch := [11]) rfl (by kernel_rfl) (by kernel_rfl) (by kernel_rfl) (by kernel_rfl) (fun _ _ _ h => h) (Or.inl ⟨by rfl, ?_⟩) hK ?_; rotate_left; (focus (intro w' hSw; obtain ⟨z0, z1⟩ := hSw; go_simp; (try with_reducible rfl))); (try simp only [Act.put, List.setIfInBounds_toArray, List.set_cons_zero, List.set_cons_succ])
            have f0 := hC7.frozen 0
            have c0 := hC7.cell 0
            refine wpAnyL_one (i := 11) (by kernel_rfl) rfl (fun K' hK' => ?_)
            go_simp
            refine hK'.out _ _ (fun h => Bool.noConfusion (show true = false from h)) ?_
            clear hK' K'
            refine wpAnyL_done (by kernel_rfl) (NoPanic.normal ?_) _
            (try simp only [Act.put, List.setIfInBounds_toArray, List.set_cons_zero, List.set_cons_succ])
            have hC8 := hC7.set 0 (.slice (some ⟨g7, 0, none⟩) ((partsOf G k).length + 1) cap7)
            simp only [List.setIfInBounds_toArray, List.set_cons_zero, List.set_cons_succ] at hC8
            have hg7 : X.heap.size ≤ g7 := by
              rcases hat with h | h
              · exact hu _ h
              · omega
            have HP8 := Lib.hid (hown7.kept (set1_grown w7 sb 0 (.slice (some ⟨g7, 0, none⟩) ((partsOf G k).length + 1) cap7)) (.inr (fun e => by simp [Value.ownBlock] at e; omega)))
            have HKP8 : Hid (Keep5 X (w7.setCell ⟨sb, 0, none⟩ (.slice (some ⟨g7, 0, none⟩) ((partsOf G k).length + 1) cap7)) sb sb) := show Keep5 _ _ _ _ from hkp7.set (p := ⟨sb, 0, none⟩) (.inl rfl) _
            have hB8 : Below w.heap.size w (w7.setCell ⟨sb, 0, none⟩ (.slice (some ⟨g7, 0, none⟩) ((partsOf G k).length + 1) cap7)) := hB7.setCell (by show w.heap.size ≤ sb; omega) _
            clear hgrow hat far hC7 hkp7 hB7 hown7 hu hK hC0 HP0 HKP0 hB0 hgc0 hgc7 f0 c0
            generalize (w7.setCell ⟨sb, 0, none⟩ (.slice (some ⟨g7, 0, none⟩) ((partsOf G k).length + 1) cap7)) = W8 at *
            go_wp2_with fail
            go_roundw
            case rel => exact ⟨k + 1, _, by omega, by go_num, hC8, by show World.ownsRow _ _ _ _ _ _ _; rw [HPS.out]; simp only [List.length_append, List.length_cons, List.length_nil, spc_snoc]; exact HP8.out, HKP8, hB8⟩
            case measure => simp [intOf]; omega
          · rw [if_neg hp, List.append_nil] at HPS
            go_wp2_with fail
            go_roundw
            case rel => exact ⟨k + 1, v, by omega, by go_num, hC, by show World.ownsRow _ _ _ _ _ _ _; rw [HPS.out]; exact HP.out, HKP, hB⟩
            case measure => simp [intOf]; omega
        · obtain rfl : k = zs.length := by omega
          obtain ⟨va, vc, rfl, hx⟩ := id (parts_at_row HP.out)
          clear hx
          have hsbx : sb < X.heap.size := hCX.lt
          have hM9 : cellsAt wr w.heap.size 42 #[.int .i64 cx, .int .i64 cy, .int .i64 size, .int .i64 cols, .int .i64 rows, .slice pa zs.length pc] := (HKP.out.2 _ (by omega) (by omega) (by omega)).trans hMX
          have hS9 : cellsAt wr (w.heap.size + 1 + 1 + 1) 47 #[.slice none 0 0, .int .i64 0, .int .i64 0] := (HKP.out.2 _ (by omega) (by omega) (by omega)).trans hSX
          have hPA : PartsOK zs (partsOf G zs.length) := fun q hq => by
            obtain ⟨q1, q2, q3, q4⟩ := (partsOf_mem G zs.length q).1 hq
            have := HGB.out q.1.toNat (by omega)
            rw [show ((q.1.toNat : Nat) : Int) = q.1 by omega] at this
            exact ⟨q1, q2, by omega, by omega⟩
          have hpl : (partsOf G zs.length).length ≤ 1000000 := Nat.le_trans (partsOf_len G zs.length) (by omega)
          have HP2 := Lib.hid (HPP.out wr.drew (.slice va (partsOf G zs.length).length vc) (0) (pr) (partsOf G zs.length) (HV.out.below hB.drew) ((parts_at_row HP.out).below (Below.refl _ _).drew) hPA hpl)
          have HVN : Hid ((Value.slice va (partsOf G zs.length).length vc).ownBlock = none ∨ (Value.slice va (partsOf G zs.length).length vc).ownBlock ≠ some (w.heap.size + 1 + 1 + 1)) := show _ ∨ _ from by
            cases hob : (Value.slice va (partsOf G zs.length).length vc).ownBlock with
            | none => exact .inl rfl
            | some g' => exact .inr (fun e => by have := (HP.out.lt g' hob).1; have : g' = w.heap.size + 1 + 1 + 1 := Option.some.inj e; omega)
          obtain ⟨m0, m1, m2, m3, m4, m5⟩ := cells6 hM9
          obtain ⟨s0, s1, s2⟩ := cells3 hC
          obtain ⟨t0, t1, t2⟩ := cells3 hS9
          have f0 := hS9.frozen 0
          have f1 := hS9.frozen 1
          have f2 := hS9.frozen 2
          have hSlt := hS9.lt
          clear hPA hpl hM9 hS9
          go_wp2_with fail
          go_region_with (go_at_call 123; refine HP2.out.mono ?_; rintro e w9 ⟨rfl, hb9⟩; have t0 := below_cell hb9 t0; have t1 := below_cell hb9 t1; have t2 := below_cell hb9 t2; have f0 := (hb9.frozen (p := ⟨w.heap.size + 1 + 1 + 1, 0, none⟩) hSlt).trans f0; have f1 := (hb9.frozen (p := ⟨w.heap.size + 1 + 1 + 1, 1, none⟩) hSlt).trans f1; have f2 := (hb9.frozen (p := ⟨w.heap.size + 1 + 1 + 1, 2, none⟩) hSlt).trans f2; have s0 := below_cell hb9 s0; have s1 := below_cell hb9 s1; have s2 := below_cell hb9 s2)
          all_goals
            go_wp2_with fail
            refine bodyPost_ret (v := .tuple #[.agg #[.slice va (partsOf G zs.length).length vc, .int .i64 (0), .int .i64 (pr)], .int .i64 (ppl zs (partsOf G zs.length)), .int .i64 0]) (by simp [results, Tryz.results50, go_sem, t0, t1, t2]) rfl (HFIN.out _ _ ?_ ?_)
            · exact parts_at_row ((ownsRow_below HP.out (below_drew' hb9)).kept (set3_grown _ _ _ _ _) HVN.out)
            · exact (below_trans hB (below_drew' hb9)).grown (set3_grown _ _ _ _ _) (below_trans hB (below_drew' hb9)).size (fun k e => by cases e; omega)
end Go.Proofs.YtmglbegbijofkaaGreatDoor
namespace Go.Proofs.YtmglbegbijofkaaGreatDoor
open Go.RowKit Go.Shelf Go.Sort
theorem rmost_any (cx cy size cols rows : Int) (pv : Value) (zs : List Int) (xl xh yl yh lethal cap : Int) (w : World) (hv : IntsAt w pv zs) (hn : zs.length ≤ 9223372036854775806) :
    Calls Tryz.prog 50 #[.agg #[.int .i64 cx, .int .i64 cy, .int .i64 size, .int .i64 cols, .int .i64 rows, pv], .agg #[.int .i64 xl, .int .i64 xh, .int .i64 yl, .int .i64 yh], .agg #[.int .i64 lethal, .int .i64 cap]] w
      (MostSpr w (mostQ zs (askE cx cy size cols rows zs xl xh yl yh lethal cap) cap (cellsL cx cy size cols rows xl xh yl yh) (cellsM cx cy size cols rows xl xh yl yh)) (mostO zs (askE cx cy size cols rows zs xl xh yl yh lethal cap) cap (cellsL cx cy size cols rows xl xh yl yh) (cellsM cx cy size cols rows xl xh yl yh))
        (mostP zs (askE cx cy size cols rows zs xl xh yl yh lethal cap) cap (cellsL cx cy size cols rows xl xh yl yh) (cellsM cx cy size cols rows xl xh yl yh)) (mostN zs (askE cx cy size cols rows zs xl xh yl yh lethal cap) cap (cellsL cx cy size cols rows xl xh yl yh) (cellsM cx cy size cols rows xl xh yl yh)) (mostE zs (askE cx cy size cols rows zs xl xh yl yh lethal cap) cap (cellsL cx cy size cols rows xl xh yl yh) (cellsM cx cy size cols rows xl xh yl yh))) := by
  by_cases h0 : askE cx cy size cols rows zs xl xh yl yh lethal cap = 0
  · rw [h0]
    exact rmost_ok cx cy size cols rows pv zs xl xh yl yh lethal cap w hv hn h0
  · refine (rmost_bad cx cy size cols rows pv zs xl xh yl yh lethal cap w hv hn h0).mono fun e w' h => ⟨.slice none 0 0, ?_, ?_, h.2⟩
    · have e1 : mostE zs (askE cx cy size cols rows zs xl xh yl yh lethal cap) cap (cellsL cx cy size cols rows xl xh yl yh) (cellsM cx cy size cols rows xl xh yl yh) = askE cx cy size cols rows zs xl xh yl yh lethal cap := if_neg h0
      unfold mostN mostO mostP
      rw [e1, if_neg h0, if_neg h0, if_neg h0, h.1]
    · have e1 : mostE zs (askE cx cy size cols rows zs xl xh yl yh lethal cap) cap (cellsL cx cy size cols rows xl xh yl yh) (cellsM cx cy size cols rows xl xh yl yh) = askE cx cy size cols rows zs xl xh yl yh lethal cap := if_neg h0
      unfold mostQ
      rw [e1, if_neg h0]
      exact ⟨_, _, rfl, .inl rfl⟩
theorem rmost_num (cx cy size cols rows : Int) (pv : Value) (zs : List Int) (xl xh yl yh lethal cap : Int) (w : World) (hv : IntsAt w pv zs) (hn : zs.length ≤ 9223372036854775806) :
    Calls Tryz.prog 50 #[.agg #[.int .i64 cx, .int .i64 cy, .int .i64 size, .int .i64 cols, .int .i64 rows, pv], .agg #[.int .i64 xl, .int .i64 xh, .int .i64 yl, .int .i64 yh], .agg #[.int .i64 lethal, .int .i64 cap]] w
      (MostNum w (mN cx cy size cols rows zs xl xh yl yh lethal cap) (mE cx cy size cols rows zs xl xh yl yh lethal cap)) :=
  (rmost_any cx cy size cols rows pv zs xl xh yl yh lethal cap w hv hn).mono fun _ _ h => by
    obtain ⟨v, h1, ⟨a, c, rfl, _⟩, h3⟩ := h
    exact ⟨a, _, c, _, _, h1, h3⟩
end Go.Proofs.YtmglbegbijofkaaGreatDoor
