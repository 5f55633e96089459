import Derived.Test.YtmglbegbijofkaaGreatDoorWV
import Derived.Test.YtmglbegbijofkaaGreatDoorPl30
import Derived.Test.YtmglbegbijofkaaGreatDoorW51
import Derived.Laws.StructEq
import Derived.Test.YtmglbegbijofkaaGreatDoorWX
import Derived.Test.YtmglbegbijofkaaGreatDoorW22
set_option linter.unusedVariables false
set_option linter.unusedSimpArgs false
/- Plain: a notice that covers an impact stands, whatever strings about other numbers come. -/
namespace Go.Proofs.YtmglbegbijofkaaGreatDoor
/-- the last notice of a number -/
def ownN (n : Int) (A : List NT) : NT := A.foldl (fun o y => if y.n = n then y else o) zeroNT
theorem ownN_snoc (n : Int) (A : List NT) (y : NT) : ownN n (A ++ [y]) = if y.n = n then y else ownN n A := by unfold ownN; rw [List.foldl_append]; rfl
theorem own_const {n : Int} : ∀ (A : List NT) (o : NT), (∀ z ∈ A, ¬ z.n = n) → A.foldl (fun o y => if y.n = n then y else o) o = o
  | [], o, _ => rfl
  | a :: A, o, h => by
    rw [List.foldl_cons, if_neg (h a (by simp))]
    exact own_const A o (fun z hz => h z (by simp [hz]))
theorem own_mem {y : NT} : ∀ (A : List NT) (o : NT), (A.Pairwise fun x y => x.n < y.n) → y ∈ A → A.foldl (fun o z => if z.n = y.n then z else o) o = y
  | [], o, _, h => by cases h
  | a :: A, o, ha, h => by
    obtain ⟨h1, h2⟩ := List.pairwise_cons.1 ha
    rw [List.foldl_cons]
    rcases List.mem_cons.1 h with rfl | h
    · rw [if_pos rfl]
      exact own_const A y (fun z hz => by have := h1 z hz; omega)
    · exact own_mem A _ h2 h
theorem ownN_mem {y : NT} {A : List NT} (ha : A.Pairwise fun x y => x.n < y.n) (h : y ∈ A) : ownN y.n A = y := own_mem A _ ha h
theorem forceR_append : ∀ (ss : List (List UInt8)) (L : List NT) (o : List UInt8), (forceR ss L).1 = 0 → forceR (ss ++ [o]) L = forceR [o] (forceR ss L).2
  | [], L, o, _ => rfl
  | s :: t, L, o, h => by
    rw [forceR_cons] at h
    rw [List.cons_append, forceR_cons, forceR_cons s t L]
    split at h
    · rename_i h1
      exact absurd h (by simpa using h1)
    · rename_i h1
      rw [if_neg h1, if_neg h1]
      split at h
      · rename_i h2
        rw [if_pos h2, if_pos h2]
        split at h
        · rename_i h3
          rw [if_pos h3, if_pos h3]
          exact forceR_append t _ o h
        · cases h
      · rename_i h2
        rw [if_neg h2, if_neg h2]
        exact forceR_append t _ o h
theorem forceE_zero {ss : List (List UInt8)} (h : forceE ss = 0) : ss.length ≤ 60 ∧ (forceR ss []).1 = 0 ∧ forceL ss = (forceR ss []).2 := by
  unfold forceE at h
  unfold forceL
  by_cases h1 : 60 < ss.length
  · rw [if_pos h1] at h; cases h
  · rw [if_neg h1] at h
    exact ⟨by omega, h, if_neg h1⟩
theorem stands {ss : List (List UInt8)} {x : Impact} {n : Int} (hE : covE ss x = 0) (hN : covN ss x = n) (h0 : ¬ n = 0) : ∃ y, y ∈ forceL ss ∧ y.n = n ∧ covB x y = true ∧ forceE ss = 0 ∧ strangeI x = false := by
  unfold covN at hN
  rw [if_pos hE] at hN
  have h1 : forceE ss = 0 ∧ strangeI x = false := by
    unfold covE at hE
    by_cases hf : forceE ss = 0
    · rw [if_neg (by simpa using hf)] at hE
      cases hs : strangeI x with
      | true => rw [hs] at hE; cases hE
      | false => exact ⟨hf, rfl⟩
    · rw [if_pos hf] at hE; exact absurd hE hf
  cases hl : (forceL ss).filter (covB x) with
  | nil => rw [hl] at hN; exact absurd hN.symm h0
  | cons y t =>
    rw [hl] at hN
    have hy : y ∈ (forceL ss).filter (covB x) := by rw [hl]; simp
    obtain ⟨h2, h3⟩ := List.mem_filter.1 hy
    exact ⟨y, h2, hN, h3, h1⟩
theorem stands_more {ss : List (List UInt8)} {o : List UInt8} {y : NT} (hE : forceE ss = 0) (hy : y ∈ forceL ss) (hp : parseE o = 0) (hn : ¬ (parseN o).n = y.n) (hm : forceE (ss ++ [o]) = 0) : y ∈ forceL (ss ++ [o]) := by
  obtain ⟨_, h1, h2⟩ := forceE_zero hE
  obtain ⟨_, h3, h4⟩ := forceE_zero hm
  rw [h2] at hy
  rw [forceR_append ss [] o h1, forceR_cons, if_neg (by simpa using hp)] at h3
  rw [h4, forceR_append ss [] o h1, forceR_cons, if_neg (by simpa using hp)]
  generalize (forceR ss []).2 = L at *
  split
  · rename_i hc
    rw [if_pos hc] at h3
    split
    · exact List.mem_filter.2 ⟨hy, by simpa using fun h => hn h.symm⟩
    · rename_i h5
      rw [if_neg h5] at h3
      cases h3
  · exact mem_putN.2 (.inr ⟨hy, fun h => hn h.symm⟩)
theorem stand_tick {x : Impact} {y : NT} {t : Int} (h : covB x y = true) (h1 : x.tl ≤ t) (h2 : t ≤ x.th) : tickB t y = true ∧ y.f ≤ t ∧ t ≤ y.u ∧ 1000000 * y.xl ≤ x.xl ∧ x.yh ≤ 1000000 * y.yh := by
  unfold covB overB at h
  simp only [Bool.and_eq_true, decide_eq_true_eq] at h
  obtain ⟨⟨⟨g1, g2⟩, g3, g4⟩, g5, g6⟩ := h
  refine ⟨?_, by omega, by omega, g3, g6⟩
  unfold tickB
  simp only [Bool.and_eq_true, decide_eq_true_eq]
  omega
theorem fcE_zero {ss : List (List UInt8)} {t : Int} (h : forceE ss = 0) (h1 : 0 ≤ t) (h2 : t ≤ 100000) : fcE ss t = 0 ∧ fcL ss t = (forceL ss).filter (tickB t) := by
  have e : fcE ss t = 0 := by
    unfold fcE
    rw [if_neg (by simpa using h), outB_false.2 ⟨h1, h2⟩]; rfl
  exact ⟨e, by unfold fcL; rw [if_pos e]⟩
theorem fcE_force {ss : List (List UInt8)} {t : Int} (h : fcE ss t = 0) : forceE ss = 0 := by
  unfold fcE at h
  by_cases hf : forceE ss = 0
  · exact hf
  · rw [if_pos hf] at h; exact h
theorem fcL_asc (ss : List (List UInt8)) (t : Int) : (fcL ss t).Pairwise fun x y => x.n < y.n := by
  unfold fcL
  split
  · exact (forceL_asc ss).filter _
  · exact List.Pairwise.nil
end Go.Proofs.YtmglbegbijofkaaGreatDoor
/- Two notices are equal, field by field, as the language compares them. -/
namespace Go.Proofs.YtmglbegbijofkaaGreatDoor
set_option maxRecDepth 100000
theorem eqStep {P : Program} {w : World} {d : Nat} {xs ys : Array Value} {f : Field} {fs : List Field} {va vb : Value} {r : Bool} (hn : ¬ f.name = "_") (h1 : (part f.type xs f.offset).run P w = .ok va w) (h2 : (part f.type ys f.offset).run P w = .ok vb w) (h3 : (Op.equalIn d f.type va vb).run P w = .ok r w) :
    (Op.eqFields d xs ys (f :: fs)).run P w = if r then (Op.eqFields d xs ys fs).run P w else .ok false w := by
  conv => lhs; rw [Op.eqFields]
  rw [if_pos hn]
  simp only [Sem.run_bind, h1, Result.andThen_ok, h2, h3]
  cases r <;> simp
theorem fields33 : (Tryz.prog.fieldsOf 33).toList.map (fun f => (f.name != "_", f.type, f.offset)) = [(true, 3, 0), (true, 4, 1), (true, 3, 2), (true, 3, 3), (true, 23, 4), (true, 23, 6)] := by kernel_rfl
theorem fields23 : (Tryz.prog.fieldsOf 23).toList.map (fun f => (f.name != "_", f.type, f.offset)) = [(true, 3, 0), (true, 3, 1)] := by kernel_rfl
theorem eq23 (d : Nat) (a0 a1 b0 b1 : Int) (w : World) : (Op.equalIn (d + 2) 23 (.agg #[.int .i64 a0, .int .i64 a1]) (.agg #[.int .i64 b0, .int .i64 b1])).run Tryz.prog w = .ok (a0 == b0 && a1 == b1) w := by
  rw [run_equalIn_agg _ _ _ _ _ (by kernel_rfl) (by kernel_rfl)]
  generalize hf : (Tryz.prog.fieldsOf 23).toList = fs
  have h := fields23
  rw [hf] at h
  match fs, h with
  | [f0, f1], h =>
    simp at h
    obtain ⟨⟨n0, t0, o0⟩, n1, t1, o1⟩ := h
    rw [eqStep n0 (va := .int .i64 a0) (vb := .int .i64 b0) (r := a0 == b0) (by rw [t0, o0]; kernel_rfl) (by rw [t0, o0]; kernel_rfl) (by rw [t0]; exact run_equalIn_int _ _ _ _ _ _ _ Tryz.underlying3),
      eqStep n1 (va := .int .i64 a1) (vb := .int .i64 b1) (r := a1 == b1) (by rw [t1, o1]; kernel_rfl) (by rw [t1, o1]; kernel_rfl) (by rw [t1]; exact run_equalIn_int _ _ _ _ _ _ _ Tryz.underlying3)]
    cases a0 == b0 <;> cases a1 == b1 <;> simp [Op.eqFields]
theorem eq33 (a0 a2 a3 a4 a5 a6 a7 b0 b2 b3 b4 b5 b6 b7 : Int) (a1 b1 : Bool) (w : World) :
    (binOp .eql 33 (.agg #[.int .i64 a0, .bool a1, .int .i64 a2, .int .i64 a3, .int .i64 a4, .int .i64 a5, .int .i64 a6, .int .i64 a7]) (.agg #[.int .i64 b0, .bool b1, .int .i64 b2, .int .i64 b3, .int .i64 b4, .int .i64 b5, .int .i64 b6, .int .i64 b7])).run Tryz.prog w =
      .ok (.bool (a0 == b0 && (a1 == b1 && (a2 == b2 && (a3 == b3 && ((a4 == b4 && a5 == b5) && (a6 == b6 && a7 == b7))))))) w := by
  rw [run_eql_struct, run_equalIn_agg _ _ _ _ _ (by kernel_rfl) (by kernel_rfl)]
  generalize hf : (Tryz.prog.fieldsOf 33).toList = fs
  have h := fields33
  rw [hf] at h
  match fs, h with
  | [f0, f1, f2, f3, f4, f5], h =>
    simp at h
    obtain ⟨⟨n0, t0, o0⟩, ⟨n1, t1, o1⟩, ⟨n2, t2, o2⟩, ⟨n3, t3, o3⟩, ⟨n4, t4, o4⟩, n5, t5, o5⟩ := h
    rw [eqStep n0 (va := .int .i64 a0) (vb := .int .i64 b0) (r := a0 == b0) (by rw [t0, o0]; kernel_rfl) (by rw [t0, o0]; kernel_rfl) (by rw [t0]; exact run_equalIn_int _ _ _ _ _ _ _ Tryz.underlying3),
      eqStep n1 (va := .bool a1) (vb := .bool b1) (r := a1 == b1) (by rw [t1, o1]; kernel_rfl) (by rw [t1, o1]; kernel_rfl) (by rw [t1]; exact run_equalIn_bool' _ _ _ _ _ Tryz.underlying4),
      eqStep n2 (va := .int .i64 a2) (vb := .int .i64 b2) (r := a2 == b2) (by rw [t2, o2]; kernel_rfl) (by rw [t2, o2]; kernel_rfl) (by rw [t2]; exact run_equalIn_int _ _ _ _ _ _ _ Tryz.underlying3),
      eqStep n3 (va := .int .i64 a3) (vb := .int .i64 b3) (r := a3 == b3) (by rw [t3, o3]; kernel_rfl) (by rw [t3, o3]; kernel_rfl) (by rw [t3]; exact run_equalIn_int _ _ _ _ _ _ _ Tryz.underlying3),
      eqStep n4 (va := .agg #[.int .i64 a4, .int .i64 a5]) (vb := .agg #[.int .i64 b4, .int .i64 b5]) (r := a4 == b4 && a5 == b5) (by rw [t4, o4]; kernel_rfl) (by rw [t4, o4]; kernel_rfl) (by rw [t4]; exact eq23 _ _ _ _ _ _),
      eqStep n5 (va := .agg #[.int .i64 a6, .int .i64 a7]) (vb := .agg #[.int .i64 b6, .int .i64 b7]) (r := a6 == b6 && a7 == b7) (by rw [t5, o5]; kernel_rfl) (by rw [t5, o5]; kernel_rfl) (by rw [t5]; exact eq23 _ _ _ _ _ _)]
    generalize (a4 == b4 && a5 == b5) = p4
    generalize (a6 == b6 && a7 == b7) = p5
    cases a0 == b0
    · simp
    · cases a1 == b1
      · simp
      · cases a2 == b2
        · simp
        · cases a3 == b3
          · simp
          · cases p4
            · simp
            · cases p5 <;> simp [Op.eqFields]
end Go.Proofs.YtmglbegbijofkaaGreatDoor
namespace Go.Proofs.YtmglbegbijofkaaGreatDoor
open Go.RowKit Go.Maps Go.Shelf
theorem news_strs {W : World} {pb po pc : Nat} {zs : List (List UInt8)} (h : StrsAt W (.slice (some ⟨pb, po, none⟩) zs.length pc) zs) : ∀ j u, (zs.map (fun s => Value.string ⟨s.toArray⟩))[j]? = some u → W.cell? ((⟨pb, po, none⟩ : Addr).add j) = some u := by
  intro j u hj
  rw [List.getElem?_map] at hj
  obtain ⟨z, hz, rfl⟩ := Option.map_eq_some_iff.1 hj
  have hjl : j < zs.length := (List.getElem?_eq_some_iff.1 hz).1
  have hadd : (⟨pb, po, none⟩ : Addr).add j = ⟨pb, po + j, none⟩ := by unfold Addr.add; split <;> simp_all
  rw [hadd]
  obtain ⟨a, c, hac, h0 | ⟨b, off, rfl, hb, hc⟩⟩ := h
  · omega
  · simp only [Value.slice.injEq, Option.some.injEq, Addr.mk.injEq] at hac
    obtain ⟨⟨rfl, rfl, _⟩, _, rfl⟩ := hac
    have := hc j (by omega)
    dsimp only at this
    rw [this, hz]; rfl
theorem strs_own {w : World} {B : Nat} {v : Value} {l : List (List UInt8)} (h : w.ownsRow B 9 1 v l.length (l.map fun s => Value.string ⟨s.toArray⟩)) : StrsAt w v l := by
  obtain ⟨h1, ⟨rfl, h2⟩ | ⟨g, cap, cur, rfl, h4, h5, h6, h7, h8, h9⟩⟩ := h
  · exact ⟨_, _, by rw [h2], .inl h2⟩
  · refine ⟨_, _, rfl, .inr ⟨g, 0, rfl, (Array.getElem?_eq_some_iff.1 h5).1, fun i hi => ?_⟩⟩
    have hg : (l.map fun s => Value.string ⟨s.toArray⟩)[i]? = some (.string ⟨(l[i]?.getD []).toArray⟩) := by
      have hi' : i < l.length := by omega
      rw [List.getElem?_map, List.getElem?_eq_getElem hi']; rfl
    rw [← h9, List.getElem?_take_of_lt (by omega)] at hg
    unfold World.cell?
    rw [h5]
    simpa using hg
theorem fcL_len7 (ss : List (List UInt8)) (t : Int) : (fcL ss t).length ≤ 1000000 := by
  unfold fcL
  split
  · have h1 := List.length_filter_le (tickB t) (forceL ss)
    have h2 := forceL_len ss
    omega
  · simp
theorem strs_some {w : World} {a : Option Addr} {c : Nat} {l : List (List UInt8)} (h : StrsAt w (.slice a l.length c) l) (hp : 0 < l.length) : ∃ b off, a = some ⟨b, off, none⟩ := by
  obtain ⟨a', c', hac, h0 | ⟨b', off', rfl, hb, hc⟩⟩ := h
  · omega
  · simp only [Value.slice.injEq] at hac
    exact ⟨b', off', hac.1⟩
set_option maxRecDepth 100000 in
set_option maxHeartbeats 4000000 in
theorem law17 (ss : List (List UInt8)) (v : Value) (x : Impact) (o : List UInt8) (w : World) (ht : Tab10 w) (hv : StrsAt w v ss) (hs : ∀ s ∈ ss, s.length ≤ 8796093022000) (hl : ss.length ≤ 9223372036854775806) (ho : o.length ≤ 8796093022000) :
    Calls Tryz.prog 17 #[v, .agg #[.int .i64 x.p, .int .i64 x.xl, .int .i64 x.xh, .int .i64 x.yl, .int .i64 x.yh, .int .i64 x.tl, .int .i64 x.th], .string ⟨o.toArray⟩] w fun e w' => e = .returned (.bool true) ∧ Below w.heap.size w w' := by
  obtain ⟨sa, sc, rfl, hx⟩ := id hv
  clear hx
  have HT := Lib.hid ht
  have HV := Lib.hid hv
  have HC := Lib.hid (fun W (h : StrsAt W (.slice sa ss.length sc) ss) => hcovers_any ss _ x W h hs hl)
  clear ht hv
  by_cases hE : covE ss x = 0
  · by_cases hN : covN ss x = 0
    · rw [hE, hN] at HC
      clear hE hN
      obtain ⟨xp, xxl, xxh, xyl, xyh, xtl, xth⟩ := x
      simp only at HC
      go_enter Tryz.func17, Tryz.ntmps17
      go_wp2_with fail
      have hX := cellsNew w #[.int .i64 xp, .int .i64 xxl, .int .i64 xxh, .int .i64 xyl, .int .i64 xyh, .int .i64 xtl, .int .i64 xth] 27
      have hB : Below w.heap.size w (w.alloc (.cells #[.int .i64 xp, .int .i64 xxl, .int .i64 xxh, .int .i64 xyl, .int .i64 xyh, .int .i64 xtl, .int .i64 xth] 27)) := balloc (Below.refl _ _) _
      generalize w.alloc (.cells #[.int .i64 xp, .int .i64 xxl, .int .i64 xxh, .int .i64 xyl, .int .i64 xyh, .int .i64 xtl, .int .i64 xth] 27) = W0 at *
      refine (HC.out _ (HV.out.below hB)).mono ?_
      rintro e w1 ⟨rfl, hb1⟩
      have hX := hX.below hb1
      have hB := below_trans hB hb1
      clear hb1
      clear hX
      go_wp2_with fail
      refine (awake_true _ (HT.out.below hB)).mono ?_
      rintro e w9 ⟨rfl, hb9⟩
      go_wp2_with fail
      go_ret
      exact ⟨rfl, below_trans hB hb9⟩
    · obtain ⟨y, hy, hyn, hcov, hfe, hst⟩ := stands hE rfl hN
      have hs60 := (forceE_zero hfe).1
      have hs1 : 0 < ss.length := by
        rcases Nat.eq_zero_or_pos ss.length with h | h
        · rw [List.length_eq_zero_iff.1 h] at hy; cases hy
        · exact h
      obtain ⟨g0, ⟨⟨g1, g2, g3⟩, g4, g5, g6⟩, g7, g8, g9, g10⟩ := strangeB_false.1 hst
      obtain ⟨⟨y0, y1⟩, _, _, ⟨y2, y3⟩⟩ := okN_bd (forceL_ok ss y hy)
      have hxa := (stand_tick (t := x.tl) hcov (Int.le_refl _) (by omega)).2.2.2
      have HA : Hid (∀ t, x.tl ≤ t → t ≤ x.th → fcE ss t = 0 ∧ y ∈ fcL ss t ∧ y.f ≤ t ∧ t ≤ y.u) := show ∀ _, _ → _ → _ ∧ _ from fun t h1 h2 => by
        obtain ⟨e1, e2⟩ := fcE_zero hfe (t := t) (by omega) (by omega)
        obtain ⟨e3, e4, e5, _⟩ := stand_tick hcov h1 h2
        exact ⟨e1, by rw [e2]; exact List.mem_filter.2 ⟨hy, e3⟩, e4, e5⟩
      have HM : Hid (∀ t, parseE o = 0 → ¬ (parseN o).n = y.n → fcE (ss ++ [o]) t = 0 → x.tl ≤ t → t ≤ x.th → y ∈ fcL (ss ++ [o]) t) := show ∀ _, _ → _ → _ → _ → _ → _ from fun t h1 h2 h3 h4 h5 => by
        have h6 := stands_more hfe hy h1 h2 (fcE_force h3)
        unfold fcL
        rw [if_pos h3]
        exact List.mem_filter.2 ⟨h6, (stand_tick hcov h4 h5).1⟩
      have HF1 := Lib.hid (fun t W (h : StrsAt W (.slice sa ss.length sc) ss) => hForce_any ss _ t W h hs hl)
      have HF2 := Lib.hid (fun t W v2 (h : StrsAt W v2 (ss ++ [o])) => hForce_any (ss ++ [o]) v2 t W h (fun s h => by rcases List.mem_append.1 h with h | h; exact hs s h; simp at h; subst h; exact ho) (by simp; omega))
      have HP := Lib.hid (fun W => parse_any o ho W)
      unfold ParseEnd ntV ntc at HP
      unfold FcPost at HF1 HF2
      have HAS1 := Lib.hid (fun t => fcL_asc ss t)
      have HAL1 := Lib.hid (fun t => fcL_len7 ss t)
      have HAL2 := Lib.hid (fun t => fcL_len7 (ss ++ [o]) t)
      rw [← hyn] at hN
      rw [hE, ← hyn] at HC
      clear hE hyn hy hcov hfe hst hs hl ho
      generalize parseE o = PE at *
      generalize parseN o = pn at *
      obtain ⟨xp, xxl, xxh, xyl, xyh, xtl, xth⟩ := x
      obtain ⟨zn, zc, zf, zu, za, zb, zd, ze⟩ := pn
      simp only at *
      obtain ⟨sb, so, rfl⟩ := strs_some HV.out hs1
      obtain ⟨i0, hi, hz0, hz1, hz2⟩ := info_parts Tryz.info9
      obtain ⟨yn, yc, yf, yu, ya, yb, yd, ye⟩ := y
      go_enter Tryz.func17, Tryz.ntmps17
      go_wp2_with fail
      have hX := cellsNew w #[.int .i64 xp, .int .i64 xxl, .int .i64 xxh, .int .i64 xyl, .int .i64 xyh, .int .i64 xtl, .int .i64 xth] 27
      have hB : Below w.heap.size w (w.alloc (.cells #[.int .i64 xp, .int .i64 xxl, .int .i64 xxh, .int .i64 xyl, .int .i64 xyh, .int .i64 xtl, .int .i64 xth] 27)) := balloc (Below.refl _ _) _
      generalize w.alloc (.cells #[.int .i64 xp, .int .i64 xxl, .int .i64 xxh, .int .i64 xyl, .int .i64 xyh, .int .i64 xtl, .int .i64 xth] 27) = W0 at *
      refine (HC.out _ (HV.out.below hB)).mono ?_
      rintro e w1 ⟨rfl, hb1⟩
      have hX := hX.below hb1
      have hB := below_trans hB hb1
      clear hb1
      have hown : (w1.alloc (.cells #[] 9)).ownsRow w.heap.size 9 1 (.slice (some ⟨w1.heap.size, 0, none⟩) 0 0) 0 [] := owns_new w1 #[] 9 w.heap.size hB.size (by simp)
      have HNW : Hid (∀ j u, (ss.map (fun s => Value.string ⟨s.toArray⟩))[j]? = some u → (w1.alloc (.cells #[] 9)).cell? ((⟨sb, so, none⟩ : Addr).add j) = some u) := show ∀ _ _, _ from news_strs (HV.out.below (balloc hB _))
      have hX0sz := hX.lt
      go_wp2_with (at_builtin; refine wpList_append_lies _ (by rfl) _ _ _ (by rfl) w.heap.size 9 i0 _ 1 16 Tryz.underlying109 hi hz0 hz1 hz2 rfl (by decide) (.slice (some ⟨w1.heap.size, 0, none⟩) 0 0) 0 _ (by rfl) hown ⟨sb, so, none⟩ ss.length sc (ss.map (fun s => Value.string ⟨s.toArray⟩)) (by rfl) (by simp) HNW.out (by intro u hu; obtain ⟨z, _, rfl⟩ := List.mem_map.1 hu; rfl) (by omega) (by unfold maxLen; omega) (by omega) (by simp; omega) (w1.heap.size + 1) (by simp) ?_)
      intro g cap5 w5 hown5 hgrow hat hlt5
      have hgv : (Value.slice (some ⟨w1.heap.size, 0, none⟩) 0 0).ownBlock = some w1.heap.size := rfl
      rw [hgv] at hgrow hat
      have hg5 : w1.heap.size ≤ g := by
        rcases hat with h | h
        · have := Option.some.inj h; omega
        · omega
      have hrf : Below w1.heap.size w1 (w1.alloc (.cells #[] 9)) := balloc (Below.refl _ _) _
      have hX := (hX.below hrf).grown hgrow (by have := hX.lt; omega)
      have hB := (balloc hB _).grown hgrow (by have := hB.size; simp; omega) (fun k e => by have := hB.size; cases e; omega)
      clear hgv hgrow hat hrf hown HNW
      have HO := Lib.hid hown5
      clear hown5
      go_wp2_with (at_builtin; refine wpList_append_lies _ (by rfl) _ _ _ (by rfl) w.heap.size 9 i0 _ 1 16 Tryz.underlying109 hi hz0 hz1 hz2 rfl (by omega) (.slice (some ⟨g, 0, none⟩) ss.length cap5) ss.length _ (by rfl) (World.ownsRow.alloc HO.out _) ⟨w5.heap.size, 0, none⟩ 1 1 [.string ⟨o.toArray⟩] (by rfl) (by rfl) (World.news_of_block (cs := #[.string ⟨o.toArray⟩]) (t := 9) (fr := (0, 0)) (heap_alloc_new w5 _)) (by simp [Value.oneCell']) (by omega) (by unfold maxLen; omega) (by omega) (by have := hB.size; simp; omega) (w5.heap.size + 1) (by simp) ?_)
      intro g6 cap6 w6 hown6 hgrow hat hlt6
      have hgv6 : (Value.slice (some ⟨g, 0, none⟩) ss.length cap5).ownBlock = some g := rfl
      rw [hgv6] at hgrow hat
      have hX := (hX.below (balloc (Below.refl _ w5) (.cells #[.string ⟨o.toArray⟩] 9))).grown hgrow (by omega)
      have hgB : w.heap.size ≤ g := by omega
      have hB := (balloc hB (.cells #[.string ⟨o.toArray⟩] 9)).grown hgrow (by have := hB.size; simp; omega) (fun k e => by cases e; exact hgB)
      have HM6 := Lib.hid (strs_own (l := ss ++ [o]) (w := w6) (B := w.heap.size) (by rw [List.length_append, List.map_append]; exact hown6))
      clear hgrow hat hown6 HO hlt5 hlt6 hg5 hgB hgv6
      generalize Value.slice (some ⟨g6, 0, none⟩) (ss.length + 1) cap6 = v6 at *
      go_wp2_with fail
      refine (HP.out _).mono ?_
      rintro e w7 ⟨rfl, hb7⟩
      have HM7 := Lib.hid (HM6.out.below hb7)
      have hX := hX.below hb7
      have hB := below_trans hB hb7
      clear hb7 HM6
      have hP := cellsNew w7 #[.int .i64 zn, .bool zc, .int .i64 zf, .int .i64 zu, .int .i64 za, .int .i64 zb, .int .i64 zd, .int .i64 ze] 33
      have hbP : Below w7.heap.size w7 (w7.alloc (.cells #[.int .i64 zn, .bool zc, .int .i64 zf, .int .i64 zu, .int .i64 za, .int .i64 zb, .int .i64 zd, .int .i64 ze] 33)) := balloc (Below.refl _ _) _
      have HM8 := Lib.hid (HM7.out.below hbP)
      have hX := hX.below hbP
      have hB := below_trans hB hbP
      clear hbP HM7
      go_wp2_with fail
      generalize w7.alloc (.cells #[.int .i64 zn, .bool zc, .int .i64 zf, .int .i64 zu, .int .i64 za, .int .i64 zb, .int .i64 zd, .int .i64 ze] 33) = W8 at *
      generalize w7.heap.size = pb at *
      go_loopw [12, 15, 16, 17, 19, 20] (fun it _ _ _ _ _ wr => ∃ k : Nat, k ≤ 3 ∧ it = .int .i64 k ∧ Below W8.heap.size W8 wr) (fun it _ _ _ _ _ _ => 3 - (intOf it).toNat)
      case atStart => exact ⟨0, by omega, rfl, Below.refl _ _⟩
      case round =>
        obtain ⟨k, hk, rfl, hBL⟩ := hrel
        obtain ⟨wo, rfl⟩ : ∃ wo : World, wo = wr := ⟨_, rfl⟩
        have hXr := hX.below hBL
        have hPr := hP.below hBL
        have hBr := below_trans hB hBL
        by_cases hlt : k < 3
        · have k3 : k = 0 ∨ k = 1 ∨ k = 2 := by omega
          obtain ⟨m, hm⟩ : ∃ m, (xth - xtl) * (k : Int) = m := ⟨_, rfl⟩
          have hm2 : 0 ≤ m ∧ m ≤ 2 * (xth - xtl) := by
            rcases k3 with rfl | rfl | rfl
            · simp at hm; omega
            · simp at hm; omega
            · have : (xth - xtl) * 2 = m := hm
              omega
          obtain ⟨m0, m1⟩ := hm2
          clear k3
          obtain ⟨q, hq⟩ : ∃ q, m.tdiv 2 = q := ⟨_, rfl⟩
          have hq' : m / 2 = q := by rw [← hq, Int.tdiv_eq_ediv_of_nonneg m0]
          obtain ⟨t, ht⟩ : ∃ t, xtl + q = t := ⟨_, rfl⟩
          have t0 : xtl ≤ t := by omega
          have t1 : t ≤ xth := by omega
          have o1 := IntWalk.i64_in (xth - xtl) ⟨by omega, by omega⟩
          have o2 := IntWalk.i64_in m ⟨by omega, by omega⟩
          have o3 := IntWalk.i64_in q ⟨by omega, by omega⟩
          have o4 := IntWalk.i64_in t ⟨by omega, by omega⟩
          have k0' : (0 : Int) ≤ (k : Int) := by omega
          have k1' : (k : Int) < 3 := by omega
          obtain ⟨e1, e2, e3, e4⟩ := HA.out t t0 t1
          have HF1t := Lib.hid (HF1.out t)
          have HF2t := Lib.hid (HF2.out t)
          have HMt := Lib.hid (HM.out t)
          rw [e1] at HF1t
          have HAt := Lib.hid (HAS1.out t)
          have hat := HAL1.out t
          have HMY := Lib.hid e2
          have hbt := HAL2.out t
          clear e1 e2
          generalize fcL ss t = A at *
          obtain ⟨d0, d1, d2, d3, d4, d5, d6⟩ := cells7y hXr
          go_wp2_with fail
          refine (HF1t.out _ (HV.out.below hBr)).mono ?_
          rintro e w9 ⟨v9, rfl, hn9, hb9⟩
          have HN9 := Lib.hid hn9
          have hX9 := hXr.below hb9
          have hP9 := hPr.below hb9
          have hBL9 := below_trans hBL hb9
          clear d0 d1 d2 d3 d4 d5 d6 hn9 hXr hPr hBr hb9 o1 o2 o3 o4 k0' k1' HF1t
          obtain ⟨a9, c9, rfl, hx⟩ := id HN9.out
          clear hx
          have hO := cellsNew w9 #[.int .i64 0, .bool false, .int .i64 0, .int .i64 0, .int .i64 0, .int .i64 0, .int .i64 0, .int .i64 0] 33
          have hbO : Below w9.heap.size w9 (w9.alloc (.cells #[.int .i64 0, .bool false, .int .i64 0, .int .i64 0, .int .i64 0, .int .i64 0, .int .i64 0, .int .i64 0] 33)) := balloc (Below.refl _ _) _
          go_wp2_with fail
          generalize w9.alloc (.cells #[.int .i64 0, .bool false, .int .i64 0, .int .i64 0, .int .i64 0, .int .i64 0, .int .i64 0, .int .i64 0] 33) = W10 at *
          go_loopw [17] (fun jt wr => ∃ j : Nat, j ≤ A.length ∧ jt = .int .i64 j ∧ Hid (cellsAt wr w9.heap.size 33 #[.int .i64 (ownN yn (A.take j)).n, .bool (ownN yn (A.take j)).c, .int .i64 (ownN yn (A.take j)).f, .int .i64 (ownN yn (A.take j)).u, .int .i64 (ownN yn (A.take j)).xl, .int .i64 (ownN yn (A.take j)).xh, .int .i64 (ownN yn (A.take j)).yl, .int .i64 (ownN yn (A.take j)).yh]) ∧ Below w9.heap.size w9 wr) (fun jt _ => A.length - (intOf jt).toNat)
          case atStart => exact ⟨0, Nat.zero_le _, rfl, hO, hbO⟩
          case round =>
            clear hO hbO
            obtain ⟨j, hj2, rfl, HO, hBw⟩ := hrel
            by_cases hqt : j < A.length
            · obtain ⟨b9, off9, rfl⟩ := nts_some HN9.out (by omega)
              obtain ⟨u, HU⟩ : ∃ u, Hid (A[j] = u) := ⟨_, show _ = _ from rfl⟩
              have HTK : Hid (ownN yn (A.take (j + 1)) = if u.n = yn then u else ownN yn (A.take j)) := show _ = _ from by rw [← HU.out, List.take_succ_eq_append_getElem hqt, ownN_snoc]
              generalize ownN yn (A.take j) = O at *
              have hE0 := nt_at (HN9.out.below hBw) hqt HU.out
              have j1 : (0 : Int) ≤ (j : Int) := by omega
              have j2 : (j : Int) < (A.length : Int) := by omega
              have hb9lt : b9 < w9.heap.size := by
                obtain ⟨a', c', hac, h0 | ⟨b', off', rfl, hb, hc⟩⟩ := HN9.out
                · omega
                · simp only [Value.slice.injEq, Option.some.injEq, Addr.mk.injEq] at hac
                  obtain ⟨⟨rfl, rfl, _⟩, _, _⟩ := hac
                  exact hb
              by_cases hq0 : 0 < j
              · obtain ⟨p, hp⟩ : ∃ p, j = p + 1 := ⟨j - 1, by omega⟩
                have hpt : p < A.length := by omega
                obtain ⟨u', HU'⟩ : ∃ u', Hid (A[p] = u') := ⟨_, show _ = _ from rfl⟩
                have hlt2 : u'.n < u.n := by
                  rw [← HU.out, ← HU'.out]
                  exact List.pairwise_iff_getElem.1 HAt.out p j hpt hqt (by omega)
                have hE1 := nt_at (HN9.out.below hBw) hpt HU'.out
                have hpz : (j : Int) - 1 = (p : Int) := by omega
                have p1 : (0 : Int) ≤ (p : Int) := by omega
                have p2 : (p : Int) < (A.length : Int) := by omega
                have q1 : (0 : Int) < (j : Int) := by omega
                have hp' : j ≠ p := by omega
                clear hp
                obtain ⟨un, uc, uf, uu, ua, ub, ud, ue⟩ := u
                obtain ⟨tn, tc, tf, tu, ta, tb, td, te⟩ := u'
                simp only at hE0 hE1 hlt2 HTK
                obtain ⟨e0, e1, e2, e5, e6, e7, e8, e9⟩ := hE0
                obtain ⟨f0, _, _, _, _, _, _, _⟩ := hE1
                by_cases huy : un = yn
                · have huy' : (un == yn) = true := beq_iff_eq.2 huy
                  rw [if_pos huy] at HTK
                  have g0 := HO.out.frozen 0
                  have g1 := HO.out.frozen 1
                  have g2 := HO.out.frozen 2
                  have g3 := HO.out.frozen 3
                  have g4 := HO.out.frozen 4
                  have g5 := HO.out.frozen 5
                  have g6 := HO.out.frozen 6
                  have g7 := HO.out.frozen 7
                  obtain ⟨z0, z1, z2, z3, z4, z5, z6, z7⟩ := cells8 HO.out
                  clear huy
                  go_upto_region 19 with fail
                  clear g0 g1 g2 g3 g4 g5 g6 g7 z0 z1 z2 z3 z4 z5 z6 z7 e0 e1 e2 e5 e6 e7 e8 e9 f0
                  have hO8 := ((((((((HO.out.set 0 (.int .i64 un)).set 1 (.bool uc)).set 2 (.int .i64 uf)).set 3 (.int .i64 uu)).set 4 (.int .i64 ua)).set 5 (.int .i64 ub)).set 6 (.int .i64 ud)).set 7 (.int .i64 ue))
                  simp only [List.setIfInBounds_toArray, List.set_cons_zero, List.set_cons_succ] at hO8
                  have hB8 := ((((((((hBw.setCell (p := ⟨w9.heap.size, 0, none⟩) (Nat.le_refl _) (.int .i64 un)).setCell (p := ⟨w9.heap.size, 1, none⟩) (Nat.le_refl _) (.bool uc)).setCell (p := ⟨w9.heap.size, 2, none⟩) (Nat.le_refl _) (.int .i64 uf)).setCell (p := ⟨w9.heap.size, 3, none⟩) (Nat.le_refl _) (.int .i64 uu)).setCell (p := ⟨w9.heap.size, 4, none⟩) (Nat.le_refl _) (.int .i64 ua)).setCell (p := ⟨w9.heap.size, 5, none⟩) (Nat.le_refl _) (.int .i64 ub)).setCell (p := ⟨w9.heap.size, 6, none⟩) (Nat.le_refl _) (.int .i64 ud)).setCell (p := ⟨w9.heap.size, 7, none⟩) (Nat.le_refl _) (.int .i64 ue))
                  generalize ((((((((wr.setCell ⟨w9.heap.size, 0, none⟩ (.int .i64 un)).setCell ⟨w9.heap.size, 1, none⟩ (.bool uc)).setCell ⟨w9.heap.size, 2, none⟩ (.int .i64 uf)).setCell ⟨w9.heap.size, 3, none⟩ (.int .i64 uu)).setCell ⟨w9.heap.size, 4, none⟩ (.int .i64 ua)).setCell ⟨w9.heap.size, 5, none⟩ (.int .i64 ub)).setCell ⟨w9.heap.size, 6, none⟩ (.int .i64 ud)).setCell ⟨w9.heap.size, 7, none⟩ (.int .i64 ue)) = W12 at *
                  have HO2 : Hid (cellsAt W12 w9.heap.size 33 #[.int .i64 (ownN yn (A.take (j + 1))).n, .bool (ownN yn (A.take (j + 1))).c, .int .i64 (ownN yn (A.take (j + 1))).f, .int .i64 (ownN yn (A.take (j + 1))).u, .int .i64 (ownN yn (A.take (j + 1))).xl, .int .i64 (ownN yn (A.take (j + 1))).xh, .int .i64 (ownN yn (A.take (j + 1))).yl, .int .i64 (ownN yn (A.take (j + 1))).yh]) := show cellsAt _ _ _ _ from by rw [HTK.out]; exact hO8
                  have hE2 := nt_at (HN9.out.below hB8) hqt HU.out
                  simp only at hE2
                  obtain ⟨e0, _, _, _, _, _, _, _⟩ := hE2
                  obtain ⟨f0, _, _, _, _, _, _, _⟩ := nt_at (HN9.out.below hB8) hpt HU'.out
                  go_quiet (fail)
                  go_wp2_with fail
                  go_roundw
                  case rel => exact ⟨j + 1, by omega, by go_num, HO2.out, below_drewN' hB8 _⟩
                  case measure => simp [intOf]; omega
                · have huy' : (un == yn) = false := beq_eq_false_iff_ne.2 huy
                  rw [if_neg huy] at HTK
                  have HO2 : Hid (cellsAt wr w9.heap.size 33 #[.int .i64 (ownN yn (A.take (j + 1))).n, .bool (ownN yn (A.take (j + 1))).c, .int .i64 (ownN yn (A.take (j + 1))).f, .int .i64 (ownN yn (A.take (j + 1))).u, .int .i64 (ownN yn (A.take (j + 1))).xl, .int .i64 (ownN yn (A.take (j + 1))).xh, .int .i64 (ownN yn (A.take (j + 1))).yl, .int .i64 (ownN yn (A.take (j + 1))).yh]) := show cellsAt _ _ _ _ from by rw [HTK.out]; exact HO.out
                  clear huy
                  go_upto_region 19 with fail
                  clear e1 e2 e5 e6 e7 e8 e9
                  go_quiet (fail)
                  go_wp2_with fail
                  go_roundw
                  case rel => exact ⟨j + 1, by omega, by go_num, HO2.out, below_drewN' hBw _⟩
                  case measure => simp [intOf]; omega
              · have g00 : ¬ (0 : Int) < (j : Int) := by omega
                obtain ⟨un, uc, uf, uu, ua, ub, ud, ue⟩ := u
                simp only at hE0 HTK
                obtain ⟨e0, e1, e2, e5, e6, e7, e8, e9⟩ := hE0
                have f0 : True := trivial
                by_cases huy : un = yn
                · have huy' : (un == yn) = true := beq_iff_eq.2 huy
                  rw [if_pos huy] at HTK
                  have g0 := HO.out.frozen 0
                  have g1 := HO.out.frozen 1
                  have g2 := HO.out.frozen 2
                  have g3 := HO.out.frozen 3
                  have g4 := HO.out.frozen 4
                  have g5 := HO.out.frozen 5
                  have g6 := HO.out.frozen 6
                  have g7 := HO.out.frozen 7
                  obtain ⟨z0, z1, z2, z3, z4, z5, z6, z7⟩ := cells8 HO.out
                  clear huy
                  go_upto_region 19 with fail
                  clear g0 g1 g2 g3 g4 g5 g6 g7 z0 z1 z2 z3 z4 z5 z6 z7 e0 e1 e2 e5 e6 e7 e8 e9 f0
                  have hO8 := ((((((((HO.out.set 0 (.int .i64 un)).set 1 (.bool uc)).set 2 (.int .i64 uf)).set 3 (.int .i64 uu)).set 4 (.int .i64 ua)).set 5 (.int .i64 ub)).set 6 (.int .i64 ud)).set 7 (.int .i64 ue))
                  simp only [List.setIfInBounds_toArray, List.set_cons_zero, List.set_cons_succ] at hO8
                  have hB8 := ((((((((hBw.setCell (p := ⟨w9.heap.size, 0, none⟩) (Nat.le_refl _) (.int .i64 un)).setCell (p := ⟨w9.heap.size, 1, none⟩) (Nat.le_refl _) (.bool uc)).setCell (p := ⟨w9.heap.size, 2, none⟩) (Nat.le_refl _) (.int .i64 uf)).setCell (p := ⟨w9.heap.size, 3, none⟩) (Nat.le_refl _) (.int .i64 uu)).setCell (p := ⟨w9.heap.size, 4, none⟩) (Nat.le_refl _) (.int .i64 ua)).setCell (p := ⟨w9.heap.size, 5, none⟩) (Nat.le_refl _) (.int .i64 ub)).setCell (p := ⟨w9.heap.size, 6, none⟩) (Nat.le_refl _) (.int .i64 ud)).setCell (p := ⟨w9.heap.size, 7, none⟩) (Nat.le_refl _) (.int .i64 ue))
                  generalize ((((((((wr.setCell ⟨w9.heap.size, 0, none⟩ (.int .i64 un)).setCell ⟨w9.heap.size, 1, none⟩ (.bool uc)).setCell ⟨w9.heap.size, 2, none⟩ (.int .i64 uf)).setCell ⟨w9.heap.size, 3, none⟩ (.int .i64 uu)).setCell ⟨w9.heap.size, 4, none⟩ (.int .i64 ua)).setCell ⟨w9.heap.size, 5, none⟩ (.int .i64 ub)).setCell ⟨w9.heap.size, 6, none⟩ (.int .i64 ud)).setCell ⟨w9.heap.size, 7, none⟩ (.int .i64 ue)) = W12 at *
                  have HO2 : Hid (cellsAt W12 w9.heap.size 33 #[.int .i64 (ownN yn (A.take (j + 1))).n, .bool (ownN yn (A.take (j + 1))).c, .int .i64 (ownN yn (A.take (j + 1))).f, .int .i64 (ownN yn (A.take (j + 1))).u, .int .i64 (ownN yn (A.take (j + 1))).xl, .int .i64 (ownN yn (A.take (j + 1))).xh, .int .i64 (ownN yn (A.take (j + 1))).yl, .int .i64 (ownN yn (A.take (j + 1))).yh]) := show cellsAt _ _ _ _ from by rw [HTK.out]; exact hO8
                  have hE2 := nt_at (HN9.out.below hB8) hqt HU.out
                  simp only at hE2
                  obtain ⟨e0, _, _, _, _, _, _, _⟩ := hE2
                  skip
                  go_quiet (fail)
                  go_wp2_with fail
                  go_roundw
                  case rel => exact ⟨j + 1, by omega, by go_num, HO2.out, below_drewN' hB8 _⟩
                  case measure => simp [intOf]; omega
                · have huy' : (un == yn) = false := beq_eq_false_iff_ne.2 huy
                  rw [if_neg huy] at HTK
                  have HO2 : Hid (cellsAt wr w9.heap.size 33 #[.int .i64 (ownN yn (A.take (j + 1))).n, .bool (ownN yn (A.take (j + 1))).c, .int .i64 (ownN yn (A.take (j + 1))).f, .int .i64 (ownN yn (A.take (j + 1))).u, .int .i64 (ownN yn (A.take (j + 1))).xl, .int .i64 (ownN yn (A.take (j + 1))).xh, .int .i64 (ownN yn (A.take (j + 1))).yl, .int .i64 (ownN yn (A.take (j + 1))).yh]) := show cellsAt _ _ _ _ from by rw [HTK.out]; exact HO.out
                  clear huy
                  go_upto_region 19 with fail
                  clear e1 e2 e5 e6 e7 e8 e9
                  go_quiet (fail)
                  go_wp2_with fail
                  go_roundw
                  case rel => exact ⟨j + 1, by omega, by go_num, HO2.out, below_drewN' hBw _⟩
                  case measure => simp [intOf]; omega
            · obtain rfl : j = A.length := by omega
              have HOWN : Hid (ownN yn A = ⟨yn, yc, yf, yu, ya, yb, yd, ye⟩) := show _ = _ from ownN_mem HAt.out HMY.out
              have hOw := HO.out
              rw [List.take_length, HOWN.out] at hOw
              simp only at hOw
              obtain ⟨d0, d1, d2, d3, d4, d5, d6⟩ := cells7y (hX9.below hBw)
              obtain ⟨z0, z1, z2, z3, z4, z5, z6, z7⟩ := cells8 hOw
              have o5 := IntWalk.i64_in (1000000 * ya) ⟨by omega, by omega⟩
              have o6 := IntWalk.i64_in (1000000 * ye) ⟨by omega, by omega⟩
              obtain ⟨hxa1, hxa2⟩ := hxa
              have hBLw := below_trans hBL9 hBw
              have hPw := hP9.below hBw
              have hXw := hX9.below hBw
              clear HO hX9 hP9
              go_wp2_with fail
              refine (HF2t.out _ _ (HM8.out.below hBLw)).mono ?_
              rintro e w11 ⟨v11, rfl, hn11, hb11⟩
              clear d0 d1 d2 d3 d4 d5 d6 z0 z1 z2 z3 z4 z5 z6 z7 o5 o6
              have HN11 := Lib.hid hn11
              have hOw := hOw.below hb11
              have hPw := hPw.below hb11
              have hBL := below_trans hBLw hb11
              have HMZ : Hid (PE = 0 → ¬ zn = yn → fcE (ss ++ [o]) t = 0 → (⟨yn, yc, yf, yu, ya, yb, yd, ye⟩ : NT) ∈ fcL (ss ++ [o]) t) := show _ → _ → _ → _ from fun h1 h2 h3 => HMt.out h1 h2 h3 t0 t1
              clear hn11 hb11 hBLw HF2t HMt hXw
              generalize fcE (ss ++ [o]) t = E2 at *
              generalize fcL (ss ++ [o]) t = B at *
              obtain ⟨p0, _, _, _, _, _, _, _⟩ := cells8 hPw
              by_cases hPE : PE = 0
              · by_cases hzn : zn = yn
                · have hzn' : (zn == yn) = true := beq_iff_eq.2 hzn
                  subst hPE
                  clear hzn
                  go_wp2_with fail
                  go_roundw
                  case rel => exact ⟨k + 1, by omega, by go_num, hBL⟩
                  case measure => simp [intOf]; omega
                · by_cases hE2 : E2 = 0
                  · have HIN := Lib.hid (HMZ.out hPE hzn hE2)
                    have hzn' : (zn == yn) = false := beq_eq_false_iff_ne.2 hzn
                    subst hPE hE2
                    clear hzn HMZ
                    obtain ⟨a11, c11, rfl, hx⟩ := id HN11.out
                    clear hx
                    go_wp2_with fail
                    go_loopw [19, 20] (fun ft jt wr => ∃ (q : Nat) (fd : Bool), q ≤ B.length ∧ jt = .int .i64 q ∧ ft = .bool fd ∧ Hid ((⟨yn, yc, yf, yu, ya, yb, yd, ye⟩ : NT) ∈ B.take q → fd = true) ∧ Below w11.heap.size w11 wr) (fun _ jt _ => B.length - (intOf jt).toNat)
                    case atStart => exact ⟨0, false, Nat.zero_le _, rfl, rfl, fun h => by simp at h, Below.refl _ _⟩
                    case round =>
                      obtain ⟨q, fd, hq3, rfl, rfl, HFD, hBv⟩ := hrel
                      obtain ⟨z0, z1, z2, z3, z4, z5, z6, z7⟩ := cells8 (hOw.below hBv)
                      by_cases hqt : q < B.length
                      · obtain ⟨b11, off11, rfl⟩ := nts_some HN11.out (by omega)
                        obtain ⟨u, HU⟩ : ∃ u, Hid (B[q] = u) := ⟨_, show _ = _ from rfl⟩
                        have HTK : Hid (B.take (q + 1) = B.take q ++ [u]) := show _ = _ from by rw [← HU.out]; exact List.take_succ_eq_append_getElem hqt
                        have hE0 := nt_at (HN11.out.below hBv) hqt HU.out
                        obtain ⟨un, uc, uf, uu, ua, ub, ud, ue⟩ := u
                        simp only at hE0
                        obtain ⟨e0, e1, e2, e5, e6, e7, e8, e9⟩ := hE0
                        have j1 : (0 : Int) ≤ (q : Int) := by omega
                        have j2 : (q : Int) < (B.length : Int) := by omega
                        cases fd with
                        | true =>
                          go_wp2_with fail
                          go_quiet (fail)
                          go_wp2_with fail
                          go_roundw
                          case rel => exact ⟨q + 1, true, by omega, by go_num, rfl, fun _ => rfl, below_drewN' hBv _⟩
                          case measure => simp [intOf]; omega
                        | false =>
                          have hEQ := eq33 un uf uu ua ub ud ue yn yf yu ya yb yd ye uc yc
                          go_wp2_with fail
                          go_quiet (fail)
                          go_wp2_with fail
                          go_roundw
                          case rel =>
                            refine ⟨q + 1, _, by omega, by go_num, rfl, fun h => ?_, below_drewN' hBv _⟩
                            rw [HTK.out] at h
                            rcases List.mem_append.1 h with h | h
                            · exact absurd (HFD.out h) (by simp)
                            · simp at h
                              obtain ⟨rfl, rfl, rfl, rfl, rfl, rfl, rfl, rfl⟩ := h
                              simp
                          case measure => simp [intOf]; omega
                      · obtain rfl : q = B.length := by omega
                        obtain rfl : fd = true := HFD.out (by rw [List.take_length]; exact HIN.out)
                        have hBL := below_trans hBL hBv
                        clear z0 z1 z2 z3 z4 z5 z6 z7
                        go_wp2_with fail
                        go_roundw
                        case rel => exact ⟨k + 1, by omega, by go_num, hBL⟩
                        case measure => simp [intOf]; omega
                  · have hE2' : (E2 != 0) = true := by simpa using hE2
                    have hzn' : (zn == yn) = false := beq_eq_false_iff_ne.2 hzn
                    subst hPE
                    clear hzn hE2
                    go_wp2_with fail
                    go_roundw
                    case rel => exact ⟨k + 1, by omega, by go_num, hBL⟩
                    case measure => simp [intOf]; omega
              · have hPE' : (PE != 0) = true := by simpa using hPE
                clear hPE
                go_wp2_with fail
                go_roundw
                case rel => exact ⟨k + 1, by omega, by go_num, hBL⟩
                case measure => simp [intOf]; omega
        · obtain rfl : k = 3 := by omega
          clear hX
          go_wp2_with fail
          refine (awake_true _ (HT.out.below hBr)).mono ?_
          rintro e w9 ⟨rfl, hb9⟩
          go_wp2_with fail
          go_ret
          exact ⟨rfl, below_trans hBr hb9⟩
  · have hE' : (covE ss x != 0) = true := by simpa using hE
    generalize covE ss x = CE at *
    generalize covN ss x = CN at *
    clear hE
    obtain ⟨xp, xxl, xxh, xyl, xyh, xtl, xth⟩ := x
    simp only at HC
    go_enter Tryz.func17, Tryz.ntmps17
    go_wp2_with fail
    have hX := cellsNew w #[.int .i64 xp, .int .i64 xxl, .int .i64 xxh, .int .i64 xyl, .int .i64 xyh, .int .i64 xtl, .int .i64 xth] 27
    have hB : Below w.heap.size w (w.alloc (.cells #[.int .i64 xp, .int .i64 xxl, .int .i64 xxh, .int .i64 xyl, .int .i64 xyh, .int .i64 xtl, .int .i64 xth] 27)) := balloc (Below.refl _ _) _
    generalize w.alloc (.cells #[.int .i64 xp, .int .i64 xxl, .int .i64 xxh, .int .i64 xyl, .int .i64 xyh, .int .i64 xtl, .int .i64 xth] 27) = W0 at *
    refine (HC.out _ (HV.out.below hB)).mono ?_
    rintro e w1 ⟨rfl, hb1⟩
    have hX := hX.below hb1
    have hB := below_trans hB hb1
    clear hb1
    clear hX
    go_wp2_with fail
    refine (awake_true _ (HT.out.below hB)).mono ?_
    rintro e w9 ⟨rfl, hb9⟩
    go_wp2_with fail
    go_ret
    exact ⟨rfl, below_trans hB hb9⟩
end Go.Proofs.YtmglbegbijofkaaGreatDoor
