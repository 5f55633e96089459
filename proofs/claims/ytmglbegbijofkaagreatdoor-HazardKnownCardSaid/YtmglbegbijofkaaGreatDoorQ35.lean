import Derived.RangeFuncNested
import Derived.RangeFuncBound
import Derived.RangeFuncCalls
import Derived.RangeFuncLeaves
import Derived.RangeFuncBox
import Derived.Shelf.SlSortCmp.NoneTotal
import Derived.Shelf.RegionOpen
import Derived.Maps.AppendAt
import Derived.Test.YtmglbegbijofkaaGreatDoorQ33
import Derived.Test.YtmglbegbijofkaaGreatDoorQ32
set_option linter.unusedVariables false
set_option linter.unusedSimpArgs false
/- hazard.chosen with the closures of Covers and of Force. -/
namespace Go.Proofs.YtmglbegbijofkaaGreatDoor
open Go.RowKit Go.Maps Go.Sort Go.Shelf
attribute [local go_sem] Oper.semAt_some
theorem Tryz.info33 : (Tryz.prog.info? 33).map (fun i => (i.zero, i.size, i.bytes)) = some (some (.agg #[.int .i64 0, .bool false, .int .i64 0, .int .i64 0, .int .i64 0, .int .i64 0, .int .i64 0, .int .i64 0]), 8, 64) := by kernel_rfl
theorem sortNotices_none (p : Option Addr) (cap : Nat) (fv : Value) (w : World) : Calls Tryz.prog 164 #[.slice p 0 cap, fv] w fun e w' => e = .returned (.tuple #[]) ∧ w = w' := (AnyF.slices_SortFunc_none Tryz.sortNotices p cap fv w).mono fun _ _ ⟨h1, h2⟩ => ⟨h1, h2.symm⟩
theorem keepsO {W W' : World} (h : Below W.heap.size W W') : KeepsOthers W W' := ⟨h.size, fun k o hk _ => (h.block k (Array.getElem?_eq_some_iff.1 hk).1).trans hk⟩
theorem boxed_below {W W' : World} {B : Nat} {t : TypeId} {v : Value} (h : Boxed W B t v) (hb : Below W.heap.size W W') : Boxed W' B t v := (hb.block B h.lt).trans h
def ntc8 (l : List NT) : List Value := l.flatMap encN
theorem ntc8_snoc (l : List NT) (y : NT) : ntc8 (l ++ [y]) = ntc8 l ++ [.int .i64 y.n, .bool y.c, .int .i64 y.f, .int .i64 y.u, .int .i64 y.xl, .int .i64 y.xh, .int .i64 y.yl, .int .i64 y.yh] := by
  unfold ntc8
  rw [List.flatMap_append]
  simp [encN]
/-- what is chosen of the notices that have come -/
def chP (p : NT → Bool) (pre : List NTo) : List NT := (pre.map (·.1)).filter p
theorem chP_snoc (p : NT → Bool) (pre : List NTo) (y : NTo) : chP p (pre ++ [y]) = chP p pre ++ (if p y.1 then [y.1] else []) := by
  unfold chP
  rw [List.map_append, List.filter_append]
  simp only [List.map_cons, List.map_nil, List.filter_cons, List.filter_nil]
theorem ntc8_get : ∀ (l : List NT) (i : Nat), i < l.length * 8 → (ntc8 l)[i]? = some (ntF l i)
  | [], i, h => by simp at h
  | y :: l, i, h => by
    have e : ntc8 (y :: l) = encN y ++ ntc8 l := by simp [ntc8]
    rw [e]
    by_cases hi : i < 8
    · have h8 : (encN y).length = 8 := rfl
      rw [List.getElem?_append_left (by rw [h8]; exact hi)]
      unfold ntF
      rw [show i / 8 = 0 by omega, show i % 8 = i by omega]
      simp only [List.getElem?_cons_zero, Option.getD_some]
      rw [List.getElem?_eq_getElem (by rw [h8]; exact hi)]
      rfl
    · have h8 : (encN y).length = 8 := rfl
      rw [List.getElem?_append_right (by rw [h8]; omega), h8, ntc8_get l (i - 8) (by simp at h; omega)]
      unfold ntF
      rw [show i / 8 = (i - 8) / 8 + 1 by omega, show i % 8 = (i - 8) % 8 by omega]
      simp
theorem nts_of_row {w : World} {B : Nat} {v : Value} {l : List NT} (h : w.ownsRow B 33 8 v l.length (ntc8 l)) (hn : 0 < l.length) :
    ∃ g c, v = .slice (some ⟨g, 0, none⟩) l.length c ∧ B ≤ g ∧ g < w.heap.size ∧ ∀ i, i < l.length * 8 → w.cell? ⟨g, i, none⟩ = some (ntF l i) ∧ w.frozen? ⟨g, i, none⟩ = false := by
  obtain ⟨h1, ⟨_, h2⟩ | ⟨g, cap, cur, rfl, h4, h5, h6, h7, h8, h9⟩⟩ := h
  · omega
  · refine ⟨g, cap, rfl, h4, (Array.getElem?_eq_some_iff.1 h5).1, fun i hi => ⟨?_, by simp [World.frozen?, h5]⟩⟩
    have hg := ntc8_get l i hi
    rw [← h9, List.getElem?_take_of_lt (by omega)] at hg
    unfold World.cell?
    rw [h5]
    simpa using hg
theorem nts_final {W5 : World} {g c n : Nat} {qs : List NT} (hl : qs.length = n) (hg : g < W5.heap.size) (h : ∀ i, i < n * 8 → W5.cell? ⟨g, i, none⟩ = some (ntF qs i)) : NtsAt W5 (.slice (some ⟨g, 0, none⟩) n c) qs := by
  subst hl
  exact ⟨_, _, rfl, .inr ⟨g, 0, rfl, hg, fun i hi => by rw [Nat.zero_add]; exact h i hi⟩⟩
theorem owns_below9 {H : Type} {w W : World} {b nn : Nat} {D0 : DataW H} (hown : w.ownsMap Tryz.prog 3 ntR b nn D0) (hW : Below w.heap.size w W) : W.ownsMap Tryz.prog 3 ntR b nn D0 := by
  have hbl := hown.lt
  obtain ⟨es, clock, hb, Ft, hs, hD⟩ := hown
  exact ⟨es, clock, (hW.block b hbl).trans hb, Ft, hs, hD⟩
set_option maxRecDepth 100000 in
set_option maxHeartbeats 4000000 in
theorem chosen_cov (p : NT → Bool) (xb ob b nn : Nat) (D : DataW Unit) (w : World)
    (hcl : ∀ (y : NTo) (W : World), Below w.heap.size w W → Calls Tryz.prog 120 (#[.agg #[.int .i64 y.1.n, .bool y.1.c, .int .i64 y.1.f, .int .i64 y.1.u, .int .i64 y.1.xl, .int .i64 y.1.xh, .int .i64 y.1.yl, .int .i64 y.1.yh]] ++ #[.pointer (some ⟨xb, 0, none⟩), .pointer (some ⟨ob, 0, none⟩)]) W fun e w' => e = .returned (.bool (p y.1)) ∧ Below W.heap.size W w')
    (hown : w.ownsMap Tryz.prog 3 ntR b nn D) (hsz : Maps.size D ≤ 1000) :
    CallsIn Fence.wide 8 Tryz.prog 119 #[.map (some b), .func (.func 120) #[] #[.pointer (some ⟨xb, 0, none⟩), .pointer (some ⟨ob, 0, none⟩)]] w fun e w' => ∃ (v : Value) (ps : List (Int × NTo)) (qs : List NT), e = .returned v ∧ AllOfN D (ps.map pairN) ∧ qs.Perm (chP p (ps.map (·.2))) ∧ qs.Pairwise (fun x y => x.n ≤ y.n) ∧ NtsAt w' v qs ∧ Below w.heap.size w w' := by
  have HCL0 : Hid (∀ (y : NTo) (W : World), Below w.heap.size w W → Calls Tryz.prog 120 #[.agg #[.int .i64 y.1.n, .bool y.1.c, .int .i64 y.1.f, .int .i64 y.1.u, .int .i64 y.1.xl, .int .i64 y.1.xh, .int .i64 y.1.yl, .int .i64 y.1.yh], .pointer (some ⟨xb, 0, none⟩), .pointer (some ⟨ob, 0, none⟩)] W fun e w' => e = .returned (.bool (p y.1)) ∧ Below W.heap.size W w') := hcl
  clear hcl
  obtain ⟨i0, hi, hz0, hz1, hz2⟩ := info_parts Tryz.info33
  refine callsIn_of_wp_marks Tryz.func119 rfl trivial ?_ rfl
  simp only [Tryz.ntmps119, List.size_toArray, List.length_cons, List.length_nil, Nat.reduceAdd, Nat.reduceSub, Array.replicate_succ, Array.replicate_zero, List.push_toArray, List.append_toArray, List.nil_append, List.cons_append]
  have bF := (Boxed.new w 192 (.func (.func 120) #[] #[.pointer (some ⟨xb, 0, none⟩), .pointer (some ⟨ob, 0, none⟩)])).alloc (.cells #[.slice none 0 0] 114)
  have bL := Boxed.new (w.alloc (.cells #[.func (.func 120) #[] #[.pointer (some ⟨xb, 0, none⟩), .pointer (some ⟨ob, 0, none⟩)]] 192)) 114 (.slice none 0 0)
  simp only [World.size_alloc] at bL
  have hB0 : Below w.heap.size w ((w.alloc (.cells #[.func (.func 120) #[] #[.pointer (some ⟨xb, 0, none⟩), .pointer (some ⟨ob, 0, none⟩)]] 192)).alloc (.cells #[.slice none 0 0] 114)) := ((Below.refl _ w).alloc (Nat.le_refl _) _).alloc (by simp) _
  have hsz0 : ((w.alloc (.cells #[.func (.func 120) #[] #[.pointer (some ⟨xb, 0, none⟩), .pointer (some ⟨ob, 0, none⟩)]] 192)).alloc (.cells #[.slice none 0 0] 114)).heap.size = w.heap.size + 2 := by simp
  gi_wp2_with (refine ⟨trivial, ?_⟩; gi_at_call 163; refine (values163 Fence.wide _ trivial rfl _ _).mono ?_; rintro e w' ⟨rfl, rfl⟩)
  obtain ⟨W0, hW0⟩ : ∃ W0, (w.alloc (.cells #[.func (.func 120) #[] #[.pointer (some ⟨xb, 0, none⟩), .pointer (some ⟨ob, 0, none⟩)]] 192)).alloc (.cells #[.slice none 0 0] 114) = W0 := ⟨_, rfl⟩
  rw [hW0] at bF bL hB0 hsz0 ⊢
  clear hW0
  have bM := Boxed.new W0 188 (.map (some b))
  rw [hsz0] at bM
  have hownW : (W0.alloc (.cells #[.map (some b)] 188)).ownsMap Tryz.prog 3 ntR b nn D := (owns_below9 hown hB0).alloc _
  have hB1 : Below w.heap.size w (W0.alloc (.cells #[.map (some b)] 188)) := hB0.alloc hB0.size _
  have bF1 := bF.alloc (.cells #[.map (some b)] 188)
  have bL1 := bL.alloc (.cells #[.map (some b)] 188)
  have hsz1 : (W0.alloc (.cells #[.map (some b)] 188)).heap.size = w.heap.size + 3 := by simp; omega
  obtain ⟨W1, hW1⟩ : ∃ W1, W0.alloc (.cells #[.map (some b)] 188) = W1 := ⟨_, rfl⟩
  rw [hW1] at bM hownW hB1 bF1 bL1 hsz1 ⊢
  clear hW1 bF bL hB0 hown
  refine wpIn_rangeFunc_ownH (F := Fence.wide) (n := 8) rfl (by omega) (gf := 190) (lb := #[.pointer (some ⟨w.heap.size + 2, 0, none⟩)]) rfl trivial (enters_of Tryz.func190 (by kernel_rfl) rfl)
    (values_stopsN Fence.wide 7 trivial rfl (by omega) (w.heap.size + 2) b nn D W1 (by omega) bM.cell hownW) walksK_t walksK_b (Below.refl _ _) (fun _ => rfl)
    (fun pre W => ((∃ v, Boxed W (w.heap.size + 1) 114 v ∧ W.ownsRow w.heap.size 33 8 v (chP p pre).length (ntc8 (chP p pre)) ∧ (v = .slice none 0 0 ↔ chP p pre = []) ∧ (chP p pre).length ≤ 1000) ∧ Boxed W w.heap.size 192 (.func (.func 120) #[] #[.pointer (some ⟨xb, 0, none⟩), .pointer (some ⟨ob, 0, none⟩)])) ∧ Below w.heap.size w W)
    (fun _ _ _ => False)
    (OwnFrom.and (OwnFrom.and (Own.from (holdsRow_own w.heap.size (w.heap.size + 1) 114 33 8 (fun pre => (chP p pre).length) (fun pre => ntc8 (chP p pre)) (fun pre v => (v = .slice none 0 0 ↔ chP p pre = []) ∧ (chP p pre).length ≤ 1000)) _) (Own.from (boxed_own _ _ _) _)) (ownFrom_below (Nat.le_refl _) (by omega)))
    (fun _ _ _ _ _ hs _ _ => hs)
    ⟨⟨⟨_, bL1, World.ownsRow_nil _ _ _ _, by simp [chP], by simp [chP]⟩, bF1⟩, hB1⟩
    (fun y a' W => ∃ Bx, w.heap.size + 1 < Bx ∧ W.heap[Bx]? = some (.cells (ntV y.1) 33 (0, 0)) ∧ a' = { tmps := #[.map (some b), .func (.func 120) #[] #[.pointer (some ⟨xb, 0, none⟩), .pointer (some ⟨ob, 0, none⟩)], undef, .pointer (some ⟨w.heap.size, 0, none⟩), .pointer (some ⟨w.heap.size + 1, 0, none⟩), .pointer (some ⟨Bx, 0, none⟩), .map (some b), .func (.func 190) #[] #[.pointer (some ⟨w.heap.size + 2, 0, none⟩)], .agg (ntV y.1), undef, undef, undef, undef, undef, undef, undef, undef, undef, undef], defers := [] })
    (fun y a' _ X Y row hs hg hr => by obtain ⟨Bx, h1, h2, h3⟩ := hs; exact ⟨Bx, h1, (hg.block Bx (Array.getElem?_eq_some_iff.1 h2).1 (fun e' => by obtain ⟨_, o, ho', hc⟩ := hr Bx e'.symm; rw [h2] at ho'; cases ho'; cases hc)).trans h2, h3⟩)
    ?assign ?body ?done ?stop
  case assign =>
    rintro l pre y W K ⟨⟨⟨v, bL1, hrow, hnil, hlen⟩, bF1⟩, hB1⟩ hK
    unfold ntV ntc
    gi_wp2
    exact hK _ _ ((KeepsOthers.alloc _ _).from _) (KeepsOthers.alloc _ _).walks ⟨⟨⟨v, bL1.alloc _, hrow.alloc _, hnil, hlen⟩, bF1.alloc _⟩, hB1.alloc hB1.size _⟩ ⟨W.heap.size, bL1.lt, World.alloc_heap_new W _, rfl⟩
  case body =>
    rintro l pre y a' W hl ⟨r, hr⟩ ⟨⟨⟨v, bL1, hrow, hnil, hlen⟩, bF1⟩, hB1⟩ ⟨Bx, hBx, hX, rfl⟩ hlt
    have cF := bF1.cell
    unfold ntV ntc at hX ⊢
    have hXc : cellsAt W Bx 33 #[.int .i64 y.1.n, .bool y.1.c, .int .i64 y.1.f, .int .i64 y.1.u, .int .i64 y.1.xl, .int .i64 y.1.xh, .int .i64 y.1.yl, .int .i64 y.1.yh] := hX
    obtain ⟨x0, x1, x2, x3, x4, x5, x6, x7⟩ := cells8 hXc
    have hcv := HCL0.out y W hB1
    have hpl : (chP p pre).length ≤ pre.length := by unfold chP; exact Nat.le_trans (List.length_filter_le _ _) (by simp)
    have hpl2 : (chP p pre).length + 1 ≤ 1000 := by omega
    have HSN := Lib.hid (chP_snoc p pre y)
    cases hcb : p y.1 with
    | false =>
      rw [hcb] at hcv HSN
      have HCV := Lib.hid hcv
      clear hcv
      gi_wp2_with (refine ⟨trivial, ?_⟩; gi_at_call 120; refine (CallsIn.inRound l (callsIn_wide.2 HCV.out)).mono ?_; rintro e w4 ⟨rfl, hb4⟩)
      exact ⟨(keepsO hb4).from _, (keepsO hb4).walks, ⟨⟨v, boxed_below bL1 hb4, by rw [HSN.out, if_neg (by simp), List.append_nil]; exact ownsRow_below hrow hb4, by rw [HSN.out, if_neg (by simp), List.append_nil]; exact hnil, by rw [HSN.out, if_neg (by simp), List.append_nil]; exact hlen⟩, boxed_below bF1 hb4⟩, below_trans hB1 hb4⟩
    | true =>
      rw [hcb] at hcv HSN
      have HCV := Lib.hid hcv
      clear hcv
      gi_wp2_with (first
        | (refine ⟨trivial, ?_⟩; gi_at_call 120; refine (CallsIn.inRound l (callsIn_wide.2 HCV.out)).mono ?_; rintro e w4 ⟨rfl, hb4⟩; have bL4 := boxed_below bL1 hb4; have cL4 := bL4.cell; have bF4 := boxed_below bF1 hb4; have hX4 := hXc.below hb4; obtain ⟨x0, x1, x2, x3, x4, x5, x6, x7⟩ := cells8 hX4; have hrow4 := ownsRow_below hrow hb4; have hB4 := below_trans hB1 hb4)
        | (gi_at_builtin; refine wpListIn_append_own _ rfl _ _ 114 rfl w.heap.size 33 i0 _ 8 64 Tryz.underlying114 hi hz0 hz1 hz2 rfl (by decide) _ _ _ rfl (hrow4.alloc _) ⟨w4.heap.size, 0, none⟩ 1 1 [.int .i64 y.1.n, .bool y.1.c, .int .i64 y.1.f, .int .i64 y.1.u, .int .i64 y.1.xl, .int .i64 y.1.xh, .int .i64 y.1.yl, .int .i64 y.1.yh] rfl rfl (World.news_of_block (cs := #[.int .i64 y.1.n, .bool y.1.c, .int .i64 y.1.f, .int .i64 y.1.u, .int .i64 y.1.xl, .int .i64 y.1.xh, .int .i64 y.1.yl, .int .i64 y.1.yh]) (t := 33) (fr := (0, 0)) (heap_alloc_new w4 _)) (by simp [Value.oneCell']) (by unfold maxLen; omega) (by omega) (by have := hB4.size; simp; omega) ?_; intro v' w1 hown' hgrow _; obtain ⟨g', cap', rfl⟩ := ownsRow_succ hown'; obtain ⟨hv1, hv2, hr2, hk2, hb2⟩ := bL4.appended (by decide) hrow4 hB4.size (by omega) hown' hgrow; have hc1 := hv1.cell; have hf1 := hv1.frozen))
      have hne := bF4.not_row (by decide) hrow4
      exact ⟨((keepsO hb4).trans hk2).from _, ((keepsO hb4).trans hk2).walks, ⟨⟨_, hv2, by rw [HSN.out, if_pos (by trivial)]; simp only [List.length_append, List.length_cons, List.length_nil, ntc8_snoc]; exact hr2, by rw [HSN.out, if_pos (by trivial)]; simp, by rw [HSN.out, if_pos (by trivial)]; simp; omega⟩, ((bF4.alloc _).kept hgrow hne).other (by omega) _⟩, hB4.trans hb2⟩
  case done =>
    rintro D' zs W hD ⟨ps, hall, rfl⟩ ⟨⟨⟨v, bL1, hrow, hnil, hlen⟩, bF1⟩, hB1⟩ hK
    have cL := bL1.cell
    have fL := bL1.frozen
    by_cases hz : chP p (ps.map (·.2)) = []
    · obtain rfl := hnil.2 hz
      have HZ := Lib.hid hz
      have HROW := Lib.hid hrow
      have HALL := Lib.hid hall
      have HKK := Lib.hid hK
      have BL := Lib.hid bL1
      clear hz hnil hrow hall hK bL1 bF1 bM hownW hlen
      have HN := Lib.hid (fun W => sortNotices_none none 0 (.func (.func 165) #[] #[]) W)
      gi_wp2_with (refine ⟨trivial, ?_⟩; gi_at_call 164; refine (callsIn_wide.2 (HN.out _)).mono ?_; rintro e w4 ⟨rfl, rfl⟩)
      have hK2 : (W.setCell ⟨w.heap.size + 1, 0, none⟩ (.slice none 0 0)).heap[D']? = some (.deferred (some [])) := (KeepsOthers.setCell W ⟨w.heap.size + 1, 0, none⟩ (.slice none 0 0)).same D' _ HKK.out rfl
      have bL5 := (BL.out.set (.slice none 0 0)).kept (grownBy_putObj' _ D' (.deferred none)) (by intro e; have := Option.some.inj e; omega)
      have cL5 := bL5.cell
      have hB5 := (hB1.setCell (p := ⟨w.heap.size + 1, 0, none⟩) (by show w.heap.size ≤ w.heap.size + 1; omega) (.slice none 0 0)).trans (belowK_b (w := w) (Nat.le_refl _) _ D' _ (.deferred none) (by omega) hK2 rfl rfl)
      refine ⟨by simp, .inl ⟨_, _, rfl, run_takeDeferred hK2, ?_⟩⟩
      refine ⟨.slice none 0 0, by simp [results, Tryz.results119, go_sem, cL5], .slice none 0 0, ps, [], rfl, HALL.out, by rw [HZ.out], List.Pairwise.nil, ⟨_, _, rfl, .inl rfl⟩, hB5⟩
    · have hp : 0 < (chP p (ps.map (·.2))).length := List.length_pos_iff.2 hz
      obtain ⟨g, c, rfl, hg1, hg2, hgc⟩ := nts_of_row hrow hp
      have HROW := Lib.hid hrow
      have HALL := Lib.hid hall
      have HKK := Lib.hid hK
      have BL := Lib.hid bL1
      have hne := bL1.not_row (by decide) hrow
      have hne2 : w.heap.size + 1 ≠ g := fun e => hne (by rw [e]; rfl)
      have HGC := Lib.hid hgc
      have hl60 : (chP p (ps.map (·.2))).length < 4611686018427387904 := by omega
      clear hz hnil hrow hall hK bL1 bF1 bM hownW hgc hne hlen
      generalize hCL : chP p (ps.map (·.2)) = CL at *
      have HCL := Lib.hid hCL
      clear hCL
      have HN := Lib.hid (sortNotices_list g c CL W hg2 (fun i hi => (HGC.out i hi).2) (fun i hi => (HGC.out i hi).1) hl60)
      gi_wp2_with (refine ⟨trivial, ?_⟩; gi_at_call 164; refine (callsIn_wide.2 HN.out).mono ?_; rintro e w4 ⟨rfl, hg4, qs, hqp, hqs, hqc⟩; have bL4 := BL.out.kept hg4 (by simpa using hne2); have cL := bL4.cell; have fL := bL4.frozen)
      have hDg : D' ≠ g := fun e => by
        have h1 := (HGC.out 0 (by omega)).1
        rw [← e] at h1
        unfold World.cell? at h1
        rw [HKK.out] at h1
        cases h1
      have hK4 : w4.heap[D']? = some (.deferred (some [])) := (hg4.block D' (Array.getElem?_eq_some_iff.1 HKK.out).1 (fun e => hDg (Option.some.inj e))).trans HKK.out
      have hB4 : Below w.heap.size w w4 := hB1.grown hg4 hB1.size (fun k e => by cases e; omega)
      have hK2 : (w4.setCell ⟨w.heap.size + 1, 0, none⟩ (.slice (some ⟨g, 0, none⟩) CL.length c)).heap[D']? = some (.deferred (some [])) := (KeepsOthers.setCell w4 ⟨w.heap.size + 1, 0, none⟩ (.slice (some ⟨g, 0, none⟩) CL.length c)).same D' _ hK4 rfl
      have bL5 := (bL4.set (.slice (some ⟨g, 0, none⟩) CL.length c)).kept (grownBy_putObj' _ D' (.deferred none)) (by intro e; have := Option.some.inj e; omega)
      have cL5 := bL5.cell
      have hB5 := (hB4.setCell (p := ⟨w.heap.size + 1, 0, none⟩) (by show w.heap.size ≤ w.heap.size + 1; omega) (.slice (some ⟨g, 0, none⟩) CL.length c)).trans (belowK_b (w := w) (Nat.le_refl _) _ D' _ (.deferred none) (by omega) hK2 rfl rfl)
      refine ⟨by simp, .inl ⟨_, _, rfl, run_takeDeferred hK2, ?_⟩⟩
      refine ⟨.slice (some ⟨g, 0, none⟩) CL.length c, by simp [results, Tryz.results119, go_sem, cL5], .slice (some ⟨g, 0, none⟩) CL.length c, ps, qs, rfl, HALL.out, by rw [HCL.out]; exact hqp, hqs, nts_final hqp.length_eq ?_ (fun i hi => ?_), hB5⟩
      · have h1 := hg4.size
        have h2 := (grownBy_setCell' w4 (w.heap.size + 1) (.slice (some ⟨g, 0, none⟩) CL.length c)).size
        have h3 := (grownBy_putObj' (w4.setCell ⟨w.heap.size + 1, 0, none⟩ (.slice (some ⟨g, 0, none⟩) CL.length c)) D' (.deferred none)).size
        omega
      · exact (grownBy_putObj' _ D' (.deferred none)).cell ((grownBy_setCell' w4 (w.heap.size + 1) _).cell (hqc i hi) (fun e => hne2 (Option.some.inj e).symm)) (fun e => hDg (Option.some.inj e).symm)
  case stop =>
    rintro D' c pre W _ _ h _
    exact h.elim
set_option maxRecDepth 100000 in
set_option maxHeartbeats 4000000 in
theorem chosen_tick (p : NT → Bool) (tb b nn : Nat) (D : DataW Unit) (w : World)
    (hcl : ∀ (y : NTo) (W : World), Below w.heap.size w W → Calls Tryz.prog 127 (#[.agg #[.int .i64 y.1.n, .bool y.1.c, .int .i64 y.1.f, .int .i64 y.1.u, .int .i64 y.1.xl, .int .i64 y.1.xh, .int .i64 y.1.yl, .int .i64 y.1.yh]] ++ #[.pointer (some ⟨tb, 0, none⟩)]) W fun e w' => e = .returned (.bool (p y.1)) ∧ Below W.heap.size W w')
    (hown : w.ownsMap Tryz.prog 3 ntR b nn D) (hsz : Maps.size D ≤ 1000) :
    CallsIn Fence.wide 8 Tryz.prog 119 #[.map (some b), .func (.func 127) #[] #[.pointer (some ⟨tb, 0, none⟩)]] w fun e w' => ∃ (v : Value) (ps : List (Int × NTo)) (qs : List NT), e = .returned v ∧ AllOfN D (ps.map pairN) ∧ qs.Perm (chP p (ps.map (·.2))) ∧ qs.Pairwise (fun x y => x.n ≤ y.n) ∧ NtsAt w' v qs ∧ Below w.heap.size w w' := by
  have HCL0 : Hid (∀ (y : NTo) (W : World), Below w.heap.size w W → Calls Tryz.prog 127 #[.agg #[.int .i64 y.1.n, .bool y.1.c, .int .i64 y.1.f, .int .i64 y.1.u, .int .i64 y.1.xl, .int .i64 y.1.xh, .int .i64 y.1.yl, .int .i64 y.1.yh], .pointer (some ⟨tb, 0, none⟩)] W fun e w' => e = .returned (.bool (p y.1)) ∧ Below W.heap.size W w') := hcl
  clear hcl
  obtain ⟨i0, hi, hz0, hz1, hz2⟩ := info_parts Tryz.info33
  refine callsIn_of_wp_marks Tryz.func119 rfl trivial ?_ rfl
  simp only [Tryz.ntmps119, List.size_toArray, List.length_cons, List.length_nil, Nat.reduceAdd, Nat.reduceSub, Array.replicate_succ, Array.replicate_zero, List.push_toArray, List.append_toArray, List.nil_append, List.cons_append]
  have bF := (Boxed.new w 192 (.func (.func 127) #[] #[.pointer (some ⟨tb, 0, none⟩)])).alloc (.cells #[.slice none 0 0] 114)
  have bL := Boxed.new (w.alloc (.cells #[.func (.func 127) #[] #[.pointer (some ⟨tb, 0, none⟩)]] 192)) 114 (.slice none 0 0)
  simp only [World.size_alloc] at bL
  have hB0 : Below w.heap.size w ((w.alloc (.cells #[.func (.func 127) #[] #[.pointer (some ⟨tb, 0, none⟩)]] 192)).alloc (.cells #[.slice none 0 0] 114)) := ((Below.refl _ w).alloc (Nat.le_refl _) _).alloc (by simp) _
  have hsz0 : ((w.alloc (.cells #[.func (.func 127) #[] #[.pointer (some ⟨tb, 0, none⟩)]] 192)).alloc (.cells #[.slice none 0 0] 114)).heap.size = w.heap.size + 2 := by simp
  gi_wp2_with (refine ⟨trivial, ?_⟩; gi_at_call 163; refine (values163 Fence.wide _ trivial rfl _ _).mono ?_; rintro e w' ⟨rfl, rfl⟩)
  obtain ⟨W0, hW0⟩ : ∃ W0, (w.alloc (.cells #[.func (.func 127) #[] #[.pointer (some ⟨tb, 0, none⟩)]] 192)).alloc (.cells #[.slice none 0 0] 114) = W0 := ⟨_, rfl⟩
  rw [hW0] at bF bL hB0 hsz0 ⊢
  clear hW0
  have bM := Boxed.new W0 188 (.map (some b))
  rw [hsz0] at bM
  have hownW : (W0.alloc (.cells #[.map (some b)] 188)).ownsMap Tryz.prog 3 ntR b nn D := (owns_below9 hown hB0).alloc _
  have hB1 : Below w.heap.size w (W0.alloc (.cells #[.map (some b)] 188)) := hB0.alloc hB0.size _
  have bF1 := bF.alloc (.cells #[.map (some b)] 188)
  have bL1 := bL.alloc (.cells #[.map (some b)] 188)
  have hsz1 : (W0.alloc (.cells #[.map (some b)] 188)).heap.size = w.heap.size + 3 := by simp; omega
  obtain ⟨W1, hW1⟩ : ∃ W1, W0.alloc (.cells #[.map (some b)] 188) = W1 := ⟨_, rfl⟩
  rw [hW1] at bM hownW hB1 bF1 bL1 hsz1 ⊢
  clear hW1 bF bL hB0 hown
  refine wpIn_rangeFunc_ownH (F := Fence.wide) (n := 8) rfl (by omega) (gf := 190) (lb := #[.pointer (some ⟨w.heap.size + 2, 0, none⟩)]) rfl trivial (enters_of Tryz.func190 (by kernel_rfl) rfl)
    (values_stopsN Fence.wide 7 trivial rfl (by omega) (w.heap.size + 2) b nn D W1 (by omega) bM.cell hownW) walksK_t walksK_b (Below.refl _ _) (fun _ => rfl)
    (fun pre W => ((∃ v, Boxed W (w.heap.size + 1) 114 v ∧ W.ownsRow w.heap.size 33 8 v (chP p pre).length (ntc8 (chP p pre)) ∧ (v = .slice none 0 0 ↔ chP p pre = []) ∧ (chP p pre).length ≤ 1000) ∧ Boxed W w.heap.size 192 (.func (.func 127) #[] #[.pointer (some ⟨tb, 0, none⟩)])) ∧ Below w.heap.size w W)
    (fun _ _ _ => False)
    (OwnFrom.and (OwnFrom.and (Own.from (holdsRow_own w.heap.size (w.heap.size + 1) 114 33 8 (fun pre => (chP p pre).length) (fun pre => ntc8 (chP p pre)) (fun pre v => (v = .slice none 0 0 ↔ chP p pre = []) ∧ (chP p pre).length ≤ 1000)) _) (Own.from (boxed_own _ _ _) _)) (ownFrom_below (Nat.le_refl _) (by omega)))
    (fun _ _ _ _ _ hs _ _ => hs)
    ⟨⟨⟨_, bL1, World.ownsRow_nil _ _ _ _, by simp [chP], by simp [chP]⟩, bF1⟩, hB1⟩
    (fun y a' W => ∃ Bx, w.heap.size + 1 < Bx ∧ W.heap[Bx]? = some (.cells (ntV y.1) 33 (0, 0)) ∧ a' = { tmps := #[.map (some b), .func (.func 127) #[] #[.pointer (some ⟨tb, 0, none⟩)], undef, .pointer (some ⟨w.heap.size, 0, none⟩), .pointer (some ⟨w.heap.size + 1, 0, none⟩), .pointer (some ⟨Bx, 0, none⟩), .map (some b), .func (.func 190) #[] #[.pointer (some ⟨w.heap.size + 2, 0, none⟩)], .agg (ntV y.1), undef, undef, undef, undef, undef, undef, undef, undef, undef, undef], defers := [] })
    (fun y a' _ X Y row hs hg hr => by obtain ⟨Bx, h1, h2, h3⟩ := hs; exact ⟨Bx, h1, (hg.block Bx (Array.getElem?_eq_some_iff.1 h2).1 (fun e' => by obtain ⟨_, o, ho', hc⟩ := hr Bx e'.symm; rw [h2] at ho'; cases ho'; cases hc)).trans h2, h3⟩)
    ?assign ?body ?done ?stop
  case assign =>
    rintro l pre y W K ⟨⟨⟨v, bL1, hrow, hnil, hlen⟩, bF1⟩, hB1⟩ hK
    unfold ntV ntc
    gi_wp2
    exact hK _ _ ((KeepsOthers.alloc _ _).from _) (KeepsOthers.alloc _ _).walks ⟨⟨⟨v, bL1.alloc _, hrow.alloc _, hnil, hlen⟩, bF1.alloc _⟩, hB1.alloc hB1.size _⟩ ⟨W.heap.size, bL1.lt, World.alloc_heap_new W _, rfl⟩
  case body =>
    rintro l pre y a' W hl ⟨r, hr⟩ ⟨⟨⟨v, bL1, hrow, hnil, hlen⟩, bF1⟩, hB1⟩ ⟨Bx, hBx, hX, rfl⟩ hlt
    have cF := bF1.cell
    unfold ntV ntc at hX ⊢
    have hXc : cellsAt W Bx 33 #[.int .i64 y.1.n, .bool y.1.c, .int .i64 y.1.f, .int .i64 y.1.u, .int .i64 y.1.xl, .int .i64 y.1.xh, .int .i64 y.1.yl, .int .i64 y.1.yh] := hX
    obtain ⟨x0, x1, x2, x3, x4, x5, x6, x7⟩ := cells8 hXc
    have hcv := HCL0.out y W hB1
    have hpl : (chP p pre).length ≤ pre.length := by unfold chP; exact Nat.le_trans (List.length_filter_le _ _) (by simp)
    have hpl2 : (chP p pre).length + 1 ≤ 1000 := by omega
    have HSN := Lib.hid (chP_snoc p pre y)
    cases hcb : p y.1 with
    | false =>
      rw [hcb] at hcv HSN
      have HCV := Lib.hid hcv
      clear hcv
      gi_wp2_with (refine ⟨trivial, ?_⟩; gi_at_call 127; refine (CallsIn.inRound l (callsIn_wide.2 HCV.out)).mono ?_; rintro e w4 ⟨rfl, hb4⟩)
      exact ⟨(keepsO hb4).from _, (keepsO hb4).walks, ⟨⟨v, boxed_below bL1 hb4, by rw [HSN.out, if_neg (by simp), List.append_nil]; exact ownsRow_below hrow hb4, by rw [HSN.out, if_neg (by simp), List.append_nil]; exact hnil, by rw [HSN.out, if_neg (by simp), List.append_nil]; exact hlen⟩, boxed_below bF1 hb4⟩, below_trans hB1 hb4⟩
    | true =>
      rw [hcb] at hcv HSN
      have HCV := Lib.hid hcv
      clear hcv
      gi_wp2_with (first
        | (refine ⟨trivial, ?_⟩; gi_at_call 127; refine (CallsIn.inRound l (callsIn_wide.2 HCV.out)).mono ?_; rintro e w4 ⟨rfl, hb4⟩; have bL4 := boxed_below bL1 hb4; have cL4 := bL4.cell; have bF4 := boxed_below bF1 hb4; have hX4 := hXc.below hb4; obtain ⟨x0, x1, x2, x3, x4, x5, x6, x7⟩ := cells8 hX4; have hrow4 := ownsRow_below hrow hb4; have hB4 := below_trans hB1 hb4)
        | (gi_at_builtin; refine wpListIn_append_own _ rfl _ _ 114 rfl w.heap.size 33 i0 _ 8 64 Tryz.underlying114 hi hz0 hz1 hz2 rfl (by decide) _ _ _ rfl (hrow4.alloc _) ⟨w4.heap.size, 0, none⟩ 1 1 [.int .i64 y.1.n, .bool y.1.c, .int .i64 y.1.f, .int .i64 y.1.u, .int .i64 y.1.xl, .int .i64 y.1.xh, .int .i64 y.1.yl, .int .i64 y.1.yh] rfl rfl (World.news_of_block (cs := #[.int .i64 y.1.n, .bool y.1.c, .int .i64 y.1.f, .int .i64 y.1.u, .int .i64 y.1.xl, .int .i64 y.1.xh, .int .i64 y.1.yl, .int .i64 y.1.yh]) (t := 33) (fr := (0, 0)) (heap_alloc_new w4 _)) (by simp [Value.oneCell']) (by unfold maxLen; omega) (by omega) (by have := hB4.size; simp; omega) ?_; intro v' w1 hown' hgrow _; obtain ⟨g', cap', rfl⟩ := ownsRow_succ hown'; obtain ⟨hv1, hv2, hr2, hk2, hb2⟩ := bL4.appended (by decide) hrow4 hB4.size (by omega) hown' hgrow; have hc1 := hv1.cell; have hf1 := hv1.frozen))
      have hne := bF4.not_row (by decide) hrow4
      exact ⟨((keepsO hb4).trans hk2).from _, ((keepsO hb4).trans hk2).walks, ⟨⟨_, hv2, by rw [HSN.out, if_pos (by trivial)]; simp only [List.length_append, List.length_cons, List.length_nil, ntc8_snoc]; exact hr2, by rw [HSN.out, if_pos (by trivial)]; simp, by rw [HSN.out, if_pos (by trivial)]; simp; omega⟩, ((bF4.alloc _).kept hgrow hne).other (by omega) _⟩, hB4.trans hb2⟩
  case done =>
    rintro D' zs W hD ⟨ps, hall, rfl⟩ ⟨⟨⟨v, bL1, hrow, hnil, hlen⟩, bF1⟩, hB1⟩ hK
    have cL := bL1.cell
    have fL := bL1.frozen
    by_cases hz : chP p (ps.map (·.2)) = []
    · obtain rfl := hnil.2 hz
      have HZ := Lib.hid hz
      have HROW := Lib.hid hrow
      have HALL := Lib.hid hall
      have HKK := Lib.hid hK
      have BL := Lib.hid bL1
      clear hz hnil hrow hall hK bL1 bF1 bM hownW hlen
      have HN := Lib.hid (fun W => sortNotices_none none 0 (.func (.func 165) #[] #[]) W)
      gi_wp2_with (refine ⟨trivial, ?_⟩; gi_at_call 164; refine (callsIn_wide.2 (HN.out _)).mono ?_; rintro e w4 ⟨rfl, rfl⟩)
      have hK2 : (W.setCell ⟨w.heap.size + 1, 0, none⟩ (.slice none 0 0)).heap[D']? = some (.deferred (some [])) := (KeepsOthers.setCell W ⟨w.heap.size + 1, 0, none⟩ (.slice none 0 0)).same D' _ HKK.out rfl
      have bL5 := (BL.out.set (.slice none 0 0)).kept (grownBy_putObj' _ D' (.deferred none)) (by intro e; have := Option.some.inj e; omega)
      have cL5 := bL5.cell
      have hB5 := (hB1.setCell (p := ⟨w.heap.size + 1, 0, none⟩) (by show w.heap.size ≤ w.heap.size + 1; omega) (.slice none 0 0)).trans (belowK_b (w := w) (Nat.le_refl _) _ D' _ (.deferred none) (by omega) hK2 rfl rfl)
      refine ⟨by simp, .inl ⟨_, _, rfl, run_takeDeferred hK2, ?_⟩⟩
      refine ⟨.slice none 0 0, by simp [results, Tryz.results119, go_sem, cL5], .slice none 0 0, ps, [], rfl, HALL.out, by rw [HZ.out], List.Pairwise.nil, ⟨_, _, rfl, .inl rfl⟩, hB5⟩
    · have hp : 0 < (chP p (ps.map (·.2))).length := List.length_pos_iff.2 hz
      obtain ⟨g, c, rfl, hg1, hg2, hgc⟩ := nts_of_row hrow hp
      have HROW := Lib.hid hrow
      have HALL := Lib.hid hall
      have HKK := Lib.hid hK
      have BL := Lib.hid bL1
      have hne := bL1.not_row (by decide) hrow
      have hne2 : w.heap.size + 1 ≠ g := fun e => hne (by rw [e]; rfl)
      have HGC := Lib.hid hgc
      have hl60 : (chP p (ps.map (·.2))).length < 4611686018427387904 := by omega
      clear hz hnil hrow hall hK bL1 bF1 bM hownW hgc hne hlen
      generalize hCL : chP p (ps.map (·.2)) = CL at *
      have HCL := Lib.hid hCL
      clear hCL
      have HN := Lib.hid (sortNotices_list g c CL W hg2 (fun i hi => (HGC.out i hi).2) (fun i hi => (HGC.out i hi).1) hl60)
      gi_wp2_with (refine ⟨trivial, ?_⟩; gi_at_call 164; refine (callsIn_wide.2 HN.out).mono ?_; rintro e w4 ⟨rfl, hg4, qs, hqp, hqs, hqc⟩; have bL4 := BL.out.kept hg4 (by simpa using hne2); have cL := bL4.cell; have fL := bL4.frozen)
      have hDg : D' ≠ g := fun e => by
        have h1 := (HGC.out 0 (by omega)).1
        rw [← e] at h1
        unfold World.cell? at h1
        rw [HKK.out] at h1
        cases h1
      have hK4 : w4.heap[D']? = some (.deferred (some [])) := (hg4.block D' (Array.getElem?_eq_some_iff.1 HKK.out).1 (fun e => hDg (Option.some.inj e))).trans HKK.out
      have hB4 : Below w.heap.size w w4 := hB1.grown hg4 hB1.size (fun k e => by cases e; omega)
      have hK2 : (w4.setCell ⟨w.heap.size + 1, 0, none⟩ (.slice (some ⟨g, 0, none⟩) CL.length c)).heap[D']? = some (.deferred (some [])) := (KeepsOthers.setCell w4 ⟨w.heap.size + 1, 0, none⟩ (.slice (some ⟨g, 0, none⟩) CL.length c)).same D' _ hK4 rfl
      have bL5 := (bL4.set (.slice (some ⟨g, 0, none⟩) CL.length c)).kept (grownBy_putObj' _ D' (.deferred none)) (by intro e; have := Option.some.inj e; omega)
      have cL5 := bL5.cell
      have hB5 := (hB4.setCell (p := ⟨w.heap.size + 1, 0, none⟩) (by show w.heap.size ≤ w.heap.size + 1; omega) (.slice (some ⟨g, 0, none⟩) CL.length c)).trans (belowK_b (w := w) (Nat.le_refl _) _ D' _ (.deferred none) (by omega) hK2 rfl rfl)
      refine ⟨by simp, .inl ⟨_, _, rfl, run_takeDeferred hK2, ?_⟩⟩
      refine ⟨.slice (some ⟨g, 0, none⟩) CL.length c, by simp [results, Tryz.results119, go_sem, cL5], .slice (some ⟨g, 0, none⟩) CL.length c, ps, qs, rfl, HALL.out, by rw [HCL.out]; exact hqp, hqs, nts_final hqp.length_eq ?_ (fun i hi => ?_), hB5⟩
      · have h1 := hg4.size
        have h2 := (grownBy_setCell' w4 (w.heap.size + 1) (.slice (some ⟨g, 0, none⟩) CL.length c)).size
        have h3 := (grownBy_putObj' (w4.setCell ⟨w.heap.size + 1, 0, none⟩ (.slice (some ⟨g, 0, none⟩) CL.length c)) D' (.deferred none)).size
        omega
      · exact (grownBy_putObj' _ D' (.deferred none)).cell ((grownBy_setCell' w4 (w.heap.size + 1) _).cell (hqc i hi) (fun e => hne2 (Option.some.inj e).symm)) (fun e => hDg (Option.some.inj e).symm)
  case stop =>
    rintro D' c pre W _ _ h _
    exact h.elim
end Go.Proofs.YtmglbegbijofkaaGreatDoor
