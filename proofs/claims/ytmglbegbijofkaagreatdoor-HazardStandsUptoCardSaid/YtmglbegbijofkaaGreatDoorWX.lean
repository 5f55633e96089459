import Derived.Test.YtmglbegbijofkaaGreatDoorWN
import Derived.Test.YtmglbegbijofkaaGreatDoorWV
import Derived.Test.YtmglbegbijofkaaGreatDoorPl30
import Derived.Test.YtmglbegbijofkaaGreatDoorW87
import Derived.Test.YtmglbegbijofkaaGreatDoorW37
set_option linter.unusedVariables false
set_option linter.unusedSimpArgs false
/- ref.put: a list of notices with one more, by the numbers. -/
namespace Go.Proofs.YtmglbegbijofkaaGreatDoor
open Go.RowKit Go.Maps Go.Shelf
theorem ntF_at {l : List NT} {k j : Nat} (hk : k < l.length) (hj : j < 8) : ntF l (k * 8 + j) = (encN l[k])[j]?.getD undef := by
  unfold ntF
  rw [show (k * 8 + j) / 8 = k by omega, show (k * 8 + j) % 8 = j by omega, List.getElem?_eq_getElem hk, Option.getD_some]
theorem nt_cells {w : World} {b off : Nat} {l : List NT} (hc : ∀ i, i < l.length * 8 → w.cell? ⟨b, off + i, none⟩ = some (ntF l i)) {k : Nat} (hk : k < l.length) :
    w.cell? ⟨b, off + k * 8, none⟩ = some (.int .i64 l[k].n) ∧ w.cell? ⟨b, off + k * 8 + 1, none⟩ = some (.bool l[k].c) ∧ w.cell? ⟨b, off + k * 8 + 2, none⟩ = some (.int .i64 l[k].f) ∧ w.cell? ⟨b, off + k * 8 + 3, none⟩ = some (.int .i64 l[k].u) ∧
      w.cell? ⟨b, off + k * 8 + 4, none⟩ = some (.int .i64 l[k].xl) ∧ w.cell? ⟨b, off + k * 8 + 5, none⟩ = some (.int .i64 l[k].xh) ∧ w.cell? ⟨b, off + k * 8 + 6, none⟩ = some (.int .i64 l[k].yl) ∧ w.cell? ⟨b, off + k * 8 + 7, none⟩ = some (.int .i64 l[k].yh) := by
  have h : ∀ j, j < 8 → w.cell? ⟨b, off + k * 8 + j, none⟩ = some ((encN l[k])[j]?.getD undef) := fun j hj => by
    have h1 := hc (k * 8 + j) (by omega)
    rw [ntF_at hk hj, ← Nat.add_assoc] at h1
    exact h1
  exact ⟨h 0 (by omega), h 1 (by omega), h 2 (by omega), h 3 (by omega), h 4 (by omega), h 5 (by omega), h 6 (by omega), h 7 (by omega)⟩
theorem nt_at {w : World} {b off c : Nat} {l : List NT} (h : NtsAt w (.slice (some ⟨b, off, none⟩) l.length c) l) {k : Nat} (hk : k < l.length) {y : NT} (hy : l[k] = y) :
    w.cell? ⟨b, off + k * 8, none⟩ = some (.int .i64 y.n) ∧ w.cell? ⟨b, off + k * 8 + 1, none⟩ = some (.bool y.c) ∧ w.cell? ⟨b, off + k * 8 + 2, none⟩ = some (.int .i64 y.f) ∧ w.cell? ⟨b, off + k * 8 + 3, none⟩ = some (.int .i64 y.u) ∧
      w.cell? ⟨b, off + k * 8 + 4, none⟩ = some (.int .i64 y.xl) ∧ w.cell? ⟨b, off + k * 8 + 5, none⟩ = some (.int .i64 y.xh) ∧ w.cell? ⟨b, off + k * 8 + 6, none⟩ = some (.int .i64 y.yl) ∧ w.cell? ⟨b, off + k * 8 + 7, none⟩ = some (.int .i64 y.yh) := by
  subst hy
  obtain ⟨a', c', hac, h0 | ⟨b', off', rfl, hb, hc⟩⟩ := h
  · omega
  · simp only [Value.slice.injEq, Option.some.injEq, Addr.mk.injEq] at hac
    obtain ⟨⟨rfl, rfl, _⟩, _, _⟩ := hac
    exact nt_cells hc hk
theorem nts_some {w : World} {a : Option Addr} {c : Nat} {l : List NT} (h : NtsAt w (.slice a l.length c) l) (hp : 0 < l.length) : ∃ b off, a = some ⟨b, off, none⟩ := by
  obtain ⟨a', c', hac, h0 | ⟨b', off', rfl, hb, hc⟩⟩ := h
  · omega
  · simp only [Value.slice.injEq] at hac
    exact ⟨b', off', hac.1⟩
theorem nts_own {w : World} {B : Nat} {v : Value} {l : List NT} (h : w.ownsRow B 33 8 v l.length (ntc8 l)) : NtsAt w v l := by
  obtain ⟨h1, ⟨rfl, h2⟩ | ⟨g, cap, cur, rfl, h4, h5, h6, h7, h8, h9⟩⟩ := h
  · exact ⟨_, _, by rw [h2], .inl h2⟩
  · refine ⟨_, _, rfl, .inr ⟨g, 0, rfl, (Array.getElem?_eq_some_iff.1 h5).1, fun i hi => ?_⟩⟩
    have hg := ntc8_get l i hi
    rw [← h9, List.getElem?_take_of_lt (by omega)] at hg
    unfold World.cell?
    rw [h5]
    simpa using hg
theorem nts_nil (w : World) (v : Value) (c : Nat) (h : v = .slice none 0 c) : NtsAt w v [] := ⟨_, _, h, .inl rfl⟩
theorem ntc8_snoc' (l : List NT) (n : Int) (c : Bool) (f u a b d e : Int) : ntc8 (l ++ [⟨n, c, f, u, a, b, d, e⟩]) = ntc8 l ++ [.int .i64 n, .bool c, .int .i64 f, .int .i64 u, .int .i64 a, .int .i64 b, .int .i64 d, .int .i64 e] := ntc8_snoc l _
set_option maxRecDepth 100000 in
set_option maxHeartbeats 2000000 in
theorem rput_any (v : Value) (L : List NT) (x : NT) (w : World) (hv : NtsAt w v L) (hl : L.length ≤ 1000) (ha : L.Pairwise fun x y => x.n < y.n) (hn : ∀ z ∈ L, z.n ≠ x.n) :
    Calls Tryz.prog 169 #[v, .agg #[.int .i64 x.n, .bool x.c, .int .i64 x.f, .int .i64 x.u, .int .i64 x.xl, .int .i64 x.xh, .int .i64 x.yl, .int .i64 x.yh]] w fun e w' => ∃ v', e = .returned v' ∧ NtsAt w' v' (putN x L) ∧ Below w.heap.size w w' := by
  obtain ⟨i0, hi, hz0, hz1, hz2⟩ := info_parts Tryz.info33
  obtain ⟨a, c, rfl, hr⟩ := id hv
  clear hr
  have HV := Lib.hid hv
  have HA := Lib.hid ha
  have HNE := Lib.hid hn
  clear hv ha hn
  obtain ⟨xn, xc, xf, xu, xa, xb, xd, xe⟩ := x
  simp only at HNE
  go_enter Tryz.func169, Tryz.ntmps169
  go_wp2_with fail
  have hX := cellsNew w #[.int .i64 xn, .bool xc, .int .i64 xf, .int .i64 xu, .int .i64 xa, .int .i64 xb, .int .i64 xd, .int .i64 xe] 33
  have hB0 : Below w.heap.size w (w.alloc (.cells #[.int .i64 xn, .bool xc, .int .i64 xf, .int .i64 xu, .int .i64 xa, .int .i64 xb, .int .i64 xd, .int .i64 xe] 33)) := balloc (Below.refl _ _) _
  generalize w.alloc (.cells #[.int .i64 xn, .bool xc, .int .i64 xf, .int .i64 xu, .int .i64 xa, .int .i64 xb, .int .i64 xd, .int .i64 xe] 33) = W1 at *
  go_loopw [5, 6, 7] (fun ov dv i wr => ∃ (k : Nat) (O : List NT) (d : Bool), k ≤ L.length ∧ i = .int .i64 k ∧ dv = .bool d ∧ Hid (PutI ⟨xn, xc, xf, xu, xa, xb, xd, xe⟩ (L.take k) O d) ∧ O.length ≤ k + 1 ∧ Hid (wr.ownsRow W1.heap.size 33 8 ov O.length (ntc8 O)) ∧ Below W1.heap.size W1 wr) (fun _ _ i _ => L.length - (intOf i).toNat)
  case atStart => exact ⟨0, [], false, Nat.zero_le _, rfl, rfl, putI_nil _, Nat.zero_le _, World.ownsRow_nil _ _ _ _, Below.refl _ _⟩
  case round =>
    obtain ⟨k, O, d, hk, rfl, rfl, HP, hO, HO, hB⟩ := hrel
    have hX2 := hX.below hB
    obtain ⟨z0, z1, z2, z3, z4, z5, z6, z7⟩ := cells8 hX2
    clear hX2
    by_cases hlt : k < L.length
    · obtain ⟨b, off, rfl⟩ := nts_some HV.out (by omega)
      obtain ⟨y, HY⟩ : ∃ y, Hid (L[k] = y) := ⟨_, show _ = _ from rfl⟩
      have HTK : Hid (L.take (k + 1) = L.take k ++ [y]) := show _ = _ from by rw [← HY.out]; exact List.take_succ_eq_append_getElem hlt
      have HAS : Hid ((L.take k ++ [y]).Pairwise fun x y => x.n < y.n) := show List.Pairwise _ _ from by rw [← HTK.out]; exact HA.out.take
      have HYN : Hid (y.n ≠ xn) := show _ ≠ _ from by rw [← HY.out]; exact HNE.out _ (List.getElem_mem hlt)
      have hE0 := nt_at (HV.out.below (below_trans hB0 hB)) hlt HY.out
      obtain ⟨yn, yc, yf, yu, ya, yb, yd, ye⟩ := y
      simp only at hE0 HYN
      obtain ⟨e0, e1, e2, e3, e4, e5, e6, e7⟩ := hE0
      have i1 : (0 : Int) ≤ (k : Int) := by omega
      have i2 : (k : Int) < (L.length : Int) := by omega
      cases d with
      | true =>
        have hgt : xn < yn := putI_true_lt HP.out HAS.out
        have HP2 := Lib.hid (putI_done HP.out HAS.out)
        go_wp2_with fail
        go_quiet (fail)
        have hBq := below_drewN' (Below.refl _ wr) nq
        have HOq := Lib.hid (ownsRow_below HO.out hBq)
        have hB := below_trans hB hBq
        generalize wr.drewN nq = wq at *
        have e0 := below_cell hBq e0
        have e1 := below_cell hBq e1
        have e2 := below_cell hBq e2
        have e3 := below_cell hBq e3
        have e4 := below_cell hBq e4
        have e5 := below_cell hBq e5
        have e6 := below_cell hBq e6
        have e7 := below_cell hBq e7
        have z0 := below_cell hBq z0
        have z1 := below_cell hBq z1
        have z2 := below_cell hBq z2
        have z3 := below_cell hBq z3
        have z4 := below_cell hBq z4
        have z5 := below_cell hBq z5
        have z6 := below_cell hBq z6
        have z7 := below_cell hBq z7
        clear hBq
        go_wp2_with (at_builtin; refine wpList_append_own _ rfl _ _ 114 rfl W1.heap.size 33 i0 _ 8 64 Tryz.underlying114 hi hz0 hz1 hz2 rfl (by decide) _ _ _ rfl (World.ownsRow.alloc HOq.out _) ⟨wq.heap.size, 0, none⟩ 1 1 [.int .i64 yn, .bool yc, .int .i64 yf, .int .i64 yu, .int .i64 ya, .int .i64 yb, .int .i64 yd, .int .i64 ye] rfl rfl (World.news_of_block (cs := #[.int .i64 yn, .bool yc, .int .i64 yf, .int .i64 yu, .int .i64 ya, .int .i64 yb, .int .i64 yd, .int .i64 ye]) (t := 33) (fr := (0, 0)) (heap_alloc_new wq _)) (by simp [Value.oneCell']) (by unfold maxLen; omega) (by omega) (by have := hB.size; simp; omega) ?_)
        intro v7 w7 hown7 hgrow7 _
        have hB7 : Below W1.heap.size W1 w7 := (hB.alloc hB.size _).grown hgrow7 (by have := hB.size; simp; omega) (fun g hg => (World.ownsRow.lt HOq.out g hg).1)
        clear hgrow7 hB
        have hB := hB7
        clear hB7
        go_wp2_with fail
        go_roundw
        case rel => exact ⟨k + 1, O ++ [⟨yn, yc, yf, yu, ya, yb, yd, ye⟩], true, by omega, by go_num, rfl, by rw [HTK.out]; exact HP2.out, by simp; omega, by show World.ownsRow _ _ _ _ _ _ _; rw [ntc8_snoc']; simpa using hown7, hB⟩
        case measure => simp [intOf]; omega
      | false =>
        by_cases hgt : xn < yn
        · have hO2 : O.length ≤ k := by
            rcases HP.out with ⟨_, h, _⟩ | ⟨h, _⟩
            · rw [h, List.length_take]; omega
            · cases h
          have HP2 := Lib.hid (putI_gt (y := ⟨yn, yc, yf, yu, ya, yb, yd, ye⟩) HP.out hgt)
          go_wp2_with fail
          go_quiet (fail)
          have hBq := below_drewN' (Below.refl _ wr) nq
          have HOq := Lib.hid (ownsRow_below HO.out hBq)
          have hB := below_trans hB hBq
          generalize wr.drewN nq = wq at *
          have e0 := below_cell hBq e0
          have e1 := below_cell hBq e1
          have e2 := below_cell hBq e2
          have e3 := below_cell hBq e3
          have e4 := below_cell hBq e4
          have e5 := below_cell hBq e5
          have e6 := below_cell hBq e6
          have e7 := below_cell hBq e7
          have z0 := below_cell hBq z0
          have z1 := below_cell hBq z1
          have z2 := below_cell hBq z2
          have z3 := below_cell hBq z3
          have z4 := below_cell hBq z4
          have z5 := below_cell hBq z5
          have z6 := below_cell hBq z6
          have z7 := below_cell hBq z7
          clear hBq
          go_wp2_with (at_builtin; refine wpList_append_own _ rfl _ _ 114 rfl W1.heap.size 33 i0 _ 8 64 Tryz.underlying114 hi hz0 hz1 hz2 rfl (by decide) _ _ _ rfl (World.ownsRow.alloc HOq.out _) ⟨wq.heap.size, 0, none⟩ 1 1 [.int .i64 xn, .bool xc, .int .i64 xf, .int .i64 xu, .int .i64 xa, .int .i64 xb, .int .i64 xd, .int .i64 xe] rfl rfl (World.news_of_block (cs := #[.int .i64 xn, .bool xc, .int .i64 xf, .int .i64 xu, .int .i64 xa, .int .i64 xb, .int .i64 xd, .int .i64 xe]) (t := 33) (fr := (0, 0)) (heap_alloc_new wq _)) (by simp [Value.oneCell']) (by unfold maxLen; omega) (by omega) (by have := hB.size; simp; omega) ?_)
          intro v7 w7 hown7 hgrow7 _
          have hB7 : Below W1.heap.size W1 w7 := (hB.alloc hB.size _).grown hgrow7 (by have := hB.size; simp; omega) (fun g hg => (World.ownsRow.lt HOq.out g hg).1)
          clear hgrow7 hB
          have hB := hB7
          clear hB7
          clear e0 e1 e2 e3 e4 e5 e6 e7
          obtain ⟨e0, e1, e2, e3, e4, e5, e6, e7⟩ := nt_at (HV.out.below (below_trans hB0 hB)) hlt HY.out
          have HO7 := Lib.hid hown7
          clear hown7
          go_wp2_with (at_builtin; refine wpList_append_own _ rfl _ _ 114 rfl W1.heap.size 33 i0 _ 8 64 Tryz.underlying114 hi hz0 hz1 hz2 rfl (by decide) _ _ _ rfl (World.ownsRow.alloc HO7.out _) ⟨w7.heap.size, 0, none⟩ 1 1 [.int .i64 yn, .bool yc, .int .i64 yf, .int .i64 yu, .int .i64 ya, .int .i64 yb, .int .i64 yd, .int .i64 ye] rfl rfl (World.news_of_block (cs := #[.int .i64 yn, .bool yc, .int .i64 yf, .int .i64 yu, .int .i64 ya, .int .i64 yb, .int .i64 yd, .int .i64 ye]) (t := 33) (fr := (0, 0)) (heap_alloc_new w7 _)) (by simp [Value.oneCell']) (by unfold maxLen; omega) (by omega) (by have := hB.size; simp; omega) ?_)
          intro v7 w8 hown7 hgrow7 _
          have hB7 : Below W1.heap.size W1 w8 := (hB.alloc hB.size _).grown hgrow7 (by have := hB.size; simp; omega) (fun g hg => (World.ownsRow.lt HO7.out g hg).1)
          clear hgrow7 hB
          have hB := hB7
          clear hB7
          go_wp2_with fail
          go_roundw
          case rel => exact ⟨k + 1, O ++ [⟨xn, xc, xf, xu, xa, xb, xd, xe⟩] ++ [⟨yn, yc, yf, yu, ya, yb, yd, ye⟩], true, by omega, by go_num, rfl, by rw [HTK.out]; exact HP2.out, by simp; omega, by show World.ownsRow _ _ _ _ _ _ _; rw [ntc8_snoc', ntc8_snoc']; simpa using hown7, hB⟩
          case measure => simp [intOf]; omega
        · have hd : decide (xn < yn) = false := decide_eq_false hgt
          have HP2 := Lib.hid (putI_lt (y := ⟨yn, yc, yf, yu, ya, yb, yd, ye⟩) HP.out HYN.out hgt)
          go_wp2_with fail
          go_quiet (fail)
          have hBq := below_drewN' (Below.refl _ wr) nq
          have HOq := Lib.hid (ownsRow_below HO.out hBq)
          have hB := below_trans hB hBq
          generalize wr.drewN nq = wq at *
          have e0 := below_cell hBq e0
          have e1 := below_cell hBq e1
          have e2 := below_cell hBq e2
          have e3 := below_cell hBq e3
          have e4 := below_cell hBq e4
          have e5 := below_cell hBq e5
          have e6 := below_cell hBq e6
          have e7 := below_cell hBq e7
          have z0 := below_cell hBq z0
          have z1 := below_cell hBq z1
          have z2 := below_cell hBq z2
          have z3 := below_cell hBq z3
          have z4 := below_cell hBq z4
          have z5 := below_cell hBq z5
          have z6 := below_cell hBq z6
          have z7 := below_cell hBq z7
          clear hBq
          go_wp2_with (at_builtin; refine wpList_append_own _ rfl _ _ 114 rfl W1.heap.size 33 i0 _ 8 64 Tryz.underlying114 hi hz0 hz1 hz2 rfl (by decide) _ _ _ rfl (World.ownsRow.alloc HOq.out _) ⟨wq.heap.size, 0, none⟩ 1 1 [.int .i64 yn, .bool yc, .int .i64 yf, .int .i64 yu, .int .i64 ya, .int .i64 yb, .int .i64 yd, .int .i64 ye] rfl rfl (World.news_of_block (cs := #[.int .i64 yn, .bool yc, .int .i64 yf, .int .i64 yu, .int .i64 ya, .int .i64 yb, .int .i64 yd, .int .i64 ye]) (t := 33) (fr := (0, 0)) (heap_alloc_new wq _)) (by simp [Value.oneCell']) (by unfold maxLen; omega) (by omega) (by have := hB.size; simp; omega) ?_)
          intro v7 w7 hown7 hgrow7 _
          have hB7 : Below W1.heap.size W1 w7 := (hB.alloc hB.size _).grown hgrow7 (by have := hB.size; simp; omega) (fun g hg => (World.ownsRow.lt HOq.out g hg).1)
          clear hgrow7 hB
          have hB := hB7
          clear hB7
          go_wp2_with fail
          go_roundw
          case rel => exact ⟨k + 1, O ++ [⟨yn, yc, yf, yu, ya, yb, yd, ye⟩], false, by omega, by go_num, rfl, by rw [HTK.out]; exact HP2.out, by simp; omega, by show World.ownsRow _ _ _ _ _ _ _; rw [ntc8_snoc']; simpa using hown7, hB⟩
          case measure => simp [intOf]; omega
    · obtain rfl : k = L.length := by omega
      rw [List.take_length] at HP
      have HE := Lib.hid (putI_end HP.out)
      cases d with
      | true =>
        go_wp2_with fail
        go_ret
        exact ⟨_, rfl, HE.out ▸ nts_own HO.out, below_trans hB0 hB⟩
      | false =>
        go_wp2_with (at_builtin; refine wpList_append_own _ rfl _ _ 114 rfl W1.heap.size 33 i0 _ 8 64 Tryz.underlying114 hi hz0 hz1 hz2 rfl (by decide) _ _ _ rfl (World.ownsRow.alloc HO.out _) ⟨wr.heap.size, 0, none⟩ 1 1 [.int .i64 xn, .bool xc, .int .i64 xf, .int .i64 xu, .int .i64 xa, .int .i64 xb, .int .i64 xd, .int .i64 xe] rfl rfl (World.news_of_block (cs := #[.int .i64 xn, .bool xc, .int .i64 xf, .int .i64 xu, .int .i64 xa, .int .i64 xb, .int .i64 xd, .int .i64 xe]) (t := 33) (fr := (0, 0)) (heap_alloc_new wr _)) (by simp [Value.oneCell']) (by unfold maxLen; omega) (by omega) (by have := hB.size; simp; omega) ?_)
        intro v7 w7 hown7 hgrow7 _
        have hB7 : Below W1.heap.size W1 w7 := (hB.alloc hB.size _).grown hgrow7 (by have := hB.size; simp; omega) (fun g hg => (World.ownsRow.lt HO.out g hg).1)
        clear hgrow7 hB
        have hB := hB7
        clear hB7
        go_wp2_with fail
        go_ret
        refine ⟨_, rfl, ?_, below_trans hB0 hB⟩
        rw [← HE.out]
        refine nts_own (B := W1.heap.size) ?_
        simp only [Bool.false_eq_true, if_false]
        rw [ntc8_snoc']
        simpa using hown7
end Go.Proofs.YtmglbegbijofkaaGreatDoor
/- ref.force: the notices in force after some strings. -/
namespace Go.Proofs.YtmglbegbijofkaaGreatDoor
open Go.RowKit Go.Maps Go.Shelf
theorem forceR_ok : ∀ (ss : List (List UInt8)) (L : List NT), (∀ y ∈ L, okN y = true) → ∀ y ∈ (forceR ss L).2, okN y = true
  | [], L, h => h
  | s :: t, L, h => by
    rw [forceR_cons]
    split
    · intro y hy; cases hy
    · rename_i h0
      have h0' : parseE s = 0 := by simpa using h0
      split
      · split
        · exact forceR_ok t _ (fun y hy => h y (List.mem_filter.1 hy).1)
        · intro y hy; cases hy
      · refine forceR_ok t _ (fun y hy => ?_)
        rcases mem_putN.1 hy with rfl | ⟨h1, _⟩
        · obtain ⟨x, _, hx, hok⟩ := parse_zero h0'
          rw [hx]; exact okN_of hok
        · exact h y h1
theorem forceL_ok (ss : List (List UInt8)) : ∀ y ∈ forceL ss, okN y = true := by
  unfold forceL
  split
  · intro y hy; cases hy
  · exact forceR_ok ss [] (fun y hy => by cases hy)
theorem forceR_len : ∀ (ss : List (List UInt8)) (L : List NT), (forceR ss L).2.length ≤ ss.length + L.length
  | [], L => by simp [forceR]
  | s :: t, L => by
    rw [forceR_cons]
    split
    · simp
    · split
      · split
        · have := forceR_len t (dropN (parseN s).n L); have h2 := dropN_len (parseN s).n L; simp; omega
        · simp
      · have := forceR_len t (putN (parseN s) L); have h2 := putN_len (parseN s) L; simp; omega
theorem forceL_len (ss : List (List UInt8)) : (forceL ss).length ≤ 60 := by
  unfold forceL
  split
  · simp
  · have := forceR_len ss []; simp at this; omega
def RFPost (w : World) (ss : List (List UInt8)) (e : Ending) (w' : World) : Prop := ∃ v', e = .returned (.tuple #[v', .int .i64 (forceE ss)]) ∧ NtsAt w' v' (forceL ss) ∧ Below w.heap.size w w'
set_option maxRecDepth 100000 in
set_option maxHeartbeats 4000000 in
theorem rforce_any (ss : List (List UInt8)) (v : Value) (w : World) (hv : StrsAt w v ss) (hs : ∀ s ∈ ss, s.length ≤ 8796093022000) (hl : ss.length ≤ 9223372036854775806) : Calls Tryz.prog 128 #[v] w (fun e w' => RFPost w ss e w') := by
  obtain ⟨i0, hi, hz0, hz1, hz2⟩ := info_parts Tryz.info33
  obtain ⟨a, c, rfl, hx⟩ := id hv
  clear hx
  have HV := Lib.hid hv
  have HSZ := Lib.hid hs
  clear hv hs
  have HBAD : Hid (∀ k w', forceE ss = k → forceL ss = [] → Below w.heap.size w w' → RFPost w ss (.returned (.tuple #[.slice none 0 0, .int .i64 k])) w') := show ∀ _ _, _ → _ → _ → _ from fun k w' h h2 h3 => ⟨_, by rw [h], by rw [h2]; exact nts_nil _ _ _ rfl, h3⟩
  have HOK : Hid (∀ w' v', forceE ss = 0 → NtsAt w' v' (forceL ss) → Below w.heap.size w w' → RFPost w ss (.returned (.tuple #[v', .int .i64 0])) w') := show ∀ _ _, _ → _ → _ → _ from fun w' v' h h2 h3 => ⟨_, by rw [h], h2, h3⟩
  by_cases h60 : 60 < ss.length
  · have HE : Hid (forceE ss = 3 ∧ forceL ss = []) := show _ ∧ _ from ⟨if_pos h60, if_pos h60⟩
    have z60 : (60 : Int) < (ss.length : Int) := by omega
    go_enter Tryz.func128, Tryz.ntmps128
    go_wp2_with fail
    go_ret2
    exact HBAD.out 3 _ HE.out.1 HE.out.2 (Below.refl _ _)
  · have HE : Hid (forceE ss = (forceR ss []).1 ∧ forceL ss = (forceR ss []).2) := show _ ∧ _ from ⟨if_neg h60, if_neg h60⟩
    have z60 : ¬ (60 : Int) < (ss.length : Int) := by omega
    have hl60 : ss.length ≤ 60 := by omega
    clear h60
    generalize forceE ss = FE at *
    generalize forceL ss = FL at *
    go_enter Tryz.func128, Tryz.ntmps128
    go_wp2_with fail
    go_loopw [4, 5, 8, 9, 10] (fun nv i _ _ _ wr => ∃ (k : Nat) (M : List NT), k ≤ ss.length ∧ i = .int .i64 k ∧ Hid (NtsAt wr nv M) ∧ Hid (M.Pairwise fun x y => x.n < y.n) ∧ M.length ≤ k ∧ Hid (forceR ss [] = forceR (ss.drop k) M) ∧ Below w.heap.size w wr) (fun _ i _ _ _ _ => ss.length - (intOf i).toNat)
    case atStart => exact ⟨0, [], Nat.zero_le _, rfl, nts_nil _ _ _ rfl, List.Pairwise.nil, Nat.le_refl _, show _ = _ from rfl, Below.refl _ _⟩
    case round =>
      obtain ⟨k, M, hk, rfl, HM, HMA, hML, HF, hB⟩ := hrel
      obtain ⟨wo, rfl⟩ : ∃ wo : World, wo = wr := ⟨_, rfl⟩
      by_cases hlt : k < ss.length
      · obtain ⟨a', c', hac, h0 | ⟨b, off, rfl, hb, hc⟩⟩ := HV.out.below hB
        · omega
        simp only [Value.slice.injEq] at hac
        obtain ⟨rfl, _, rfl⟩ := hac
        have hck := hc k (by omega)
        dsimp only at hck
        have hs0 := HSZ.out ss[k] (List.getElem_mem hlt)
        have HDR : Hid (ss.drop k = ss[k] :: ss.drop (k + 1)) := show _ = _ from List.drop_eq_getElem_cons hlt
        rw [List.getElem?_eq_getElem hlt, Option.getD_some] at hck
        generalize ss[k] = s at *
        have HP := Lib.hid (fun W => rparse_any s hs0 W)
        unfold ParseEnd ntV ntc at HP
        have HFC := Lib.hid (forceR_cons s (ss.drop (k + 1)) M)
        have i1 : (0 : Int) ≤ (k : Int) := by omega
        have i2 : (k : Int) < (ss.length : Int) := by omega
        clear hc hs0
        generalize parseE s = E at *
        generalize parseN s = x at *
        obtain ⟨am, cm, rfl, hx⟩ := id HM.out
        clear hx
        go_wp2_with fail
        refine (HP.out _).mono ?_
        rintro e w2 ⟨rfl, hb2⟩
        have hB2 := below_trans hB hb2
        have HM2 := Lib.hid (HM.out.below hb2)
        clear hck HP HM
        have HX2 := cellsNew w2 #[.int .i64 x.n, .bool x.c, .int .i64 x.f, .int .i64 x.u, .int .i64 x.xl, .int .i64 x.xh, .int .i64 x.yl, .int .i64 x.yh] 33
        have hbX : Below w2.heap.size w2 (w2.alloc (.cells #[.int .i64 x.n, .bool x.c, .int .i64 x.f, .int .i64 x.u, .int .i64 x.xl, .int .i64 x.xh, .int .i64 x.yl, .int .i64 x.yh] 33)) := balloc (Below.refl _ _) _
        have hB3 := below_trans hB2 hbX
        have HM3 := Lib.hid (HM2.out.below hbX)
        clear hbX HM2 hB2 hB hb2
        by_cases hE : E = 0
        · subst hE
          have HFC2 : Hid (forceR ss [] = if x.c = true then (if (M.any fun y => y.n == x.n) then forceR (ss.drop (k + 1)) (dropN x.n M) else (4, [])) else forceR (ss.drop (k + 1)) (putN x M)) := show _ = _ from by rw [HF.out, HDR.out, HFC.out, if_neg (by simp)]
          clear HF HFC HDR
          obtain ⟨xn, xc, xf, xu, xa, xb, xd, xe⟩ := x
          simp only at HX2 hB3 HM3 HFC2
          obtain ⟨z0, z1, z2, z3, z4, z5, z6, z7⟩ := cells8 HX2
          go_wp2_with fail
          generalize w2.alloc (.cells #[.int .i64 xn, .bool xc, .int .i64 xf, .int .i64 xu, .int .i64 xa, .int .i64 xb, .int .i64 xd, .int .i64 xe] 33) = W4 at *
          clear z0 z1 z2 z3 z4 z5 z6 z7
          go_loopw [8, 9, 10] (fun ov fv j wr => ∃ (q : Nat) (O : List NT) (fd : Bool), q ≤ M.length ∧ j = .int .i64 q ∧ fv = .bool fd ∧ Hid (O = dropN xn (M.take q) ∧ fd = (M.take q).any fun y => y.n == xn) ∧ O.length ≤ q ∧ Hid (wr.ownsRow W4.heap.size 33 8 ov O.length (ntc8 O)) ∧ Below W4.heap.size W4 wr) (fun _ _ j _ => M.length - (intOf j).toNat)
          case atStart => exact ⟨0, [], false, Nat.zero_le _, rfl, rfl, ⟨rfl, rfl⟩, Nat.le_refl _, World.ownsRow_nil _ _ _ _, Below.refl _ _⟩
          case round =>
            obtain ⟨q, O, fd, hq, rfl, rfl, HD, hO, HO, hB4⟩ := hrel
            obtain ⟨z0, z1, z2, z3, z4, z5, z6, z7⟩ := cells8 (HX2.below hB4)
            by_cases hqt : q < M.length
            · obtain ⟨b4, off4, rfl⟩ := nts_some HM3.out (by omega)
              obtain ⟨y, HY⟩ : ∃ y, Hid (M[q] = y) := ⟨_, show _ = _ from rfl⟩
              have HTK : Hid (M.take (q + 1) = M.take q ++ [y]) := show _ = _ from by rw [← HY.out]; exact List.take_succ_eq_append_getElem hqt
              have hE0 := nt_at (HM3.out.below hB4) hqt HY.out
              obtain ⟨yn, yc, yf, yu, ya, yb, yd, ye⟩ := y
              simp only at hE0
              obtain ⟨e0, e1, e2, e3, e4, e5, e6, e7⟩ := hE0
              have j1 : (0 : Int) ≤ (q : Int) := by omega
              have j2 : (q : Int) < (M.length : Int) := by omega
              by_cases hyx : yn = xn
              · have HD2 : Hid (O = dropN xn (M.take (q + 1)) ∧ true = (M.take (q + 1)).any fun y => y.n == xn) := show _ ∧ _ from by
                  rw [HTK.out, dropN_snoc_eq hyx, any_snoc_eq hyx]; exact ⟨HD.out.1, rfl⟩
                subst hyx
                go_wp2_with fail
                go_quiet (fail)
                have hBq := below_drewN' (Below.refl _ wr) nq
                have HOq := Lib.hid (ownsRow_below HO.out hBq)
                have hB4 := below_trans hB4 hBq
                generalize wr.drewN nq = wq at *
                have e0 := below_cell hBq e0
                have e1 := below_cell hBq e1
                have e2 := below_cell hBq e2
                have e3 := below_cell hBq e3
                have e4 := below_cell hBq e4
                have e5 := below_cell hBq e5
                have e6 := below_cell hBq e6
                have e7 := below_cell hBq e7
                have z0 := below_cell hBq z0
                have z1 := below_cell hBq z1
                have z2 := below_cell hBq z2
                have z3 := below_cell hBq z3
                have z4 := below_cell hBq z4
                have z5 := below_cell hBq z5
                have z6 := below_cell hBq z6
                have z7 := below_cell hBq z7
                clear hBq
                go_wp2_with fail
                go_roundw
                case rel => exact ⟨q + 1, O, true, by omega, by go_num, rfl, HD2.out, by omega, HOq.out, hB4⟩
                case measure => simp [intOf]; omega
              · have HD2 : Hid (O ++ [⟨yn, yc, yf, yu, ya, yb, yd, ye⟩] = dropN xn (M.take (q + 1)) ∧ fd = (M.take (q + 1)).any fun y => y.n == xn) := show _ ∧ _ from by
                  rw [HTK.out, dropN_snoc_ne hyx, any_snoc_ne hyx, ← HD.out.1]; exact ⟨rfl, HD.out.2⟩
                have hyx' : (yn == xn) = false := beq_eq_false_iff_ne.2 hyx
                clear hyx
                go_wp2_with fail
                go_quiet (fail)
                have hBq := below_drewN' (Below.refl _ wr) nq
                have HOq := Lib.hid (ownsRow_below HO.out hBq)
                have hB4 := below_trans hB4 hBq
                generalize wr.drewN nq = wq at *
                have e0 := below_cell hBq e0
                have e1 := below_cell hBq e1
                have e2 := below_cell hBq e2
                have e3 := below_cell hBq e3
                have e4 := below_cell hBq e4
                have e5 := below_cell hBq e5
                have e6 := below_cell hBq e6
                have e7 := below_cell hBq e7
                have z0 := below_cell hBq z0
                have z1 := below_cell hBq z1
                have z2 := below_cell hBq z2
                have z3 := below_cell hBq z3
                have z4 := below_cell hBq z4
                have z5 := below_cell hBq z5
                have z6 := below_cell hBq z6
                have z7 := below_cell hBq z7
                clear hBq
                go_wp2_with (at_builtin; refine wpList_append_own _ rfl _ _ 114 rfl W4.heap.size 33 i0 _ 8 64 Tryz.underlying114 hi hz0 hz1 hz2 rfl (by decide) _ _ _ rfl (World.ownsRow.alloc HOq.out _) ⟨wq.heap.size, 0, none⟩ 1 1 [.int .i64 yn, .bool yc, .int .i64 yf, .int .i64 yu, .int .i64 ya, .int .i64 yb, .int .i64 yd, .int .i64 ye] rfl rfl ?c1 ?c2 ?c3 ?c4 ?c5 ?_)
                case c1 => exact World.news_of_block (cs := #[.int .i64 yn, .bool yc, .int .i64 yf, .int .i64 yu, .int .i64 ya, .int .i64 yb, .int .i64 yd, .int .i64 ye]) (t := 33) (fr := (0, 0)) (heap_alloc_new wq _)
                case c2 => simp [Value.oneCell']
                case c3 => unfold maxLen; omega
                case c4 => omega
                case c5 => have := hB4.size; simp; omega
                intro v7 w7 hown7 hgrow7 _
                have hB7 : Below W4.heap.size W4 w7 := (hB4.alloc hB4.size _).grown hgrow7 (by have := hB4.size; simp; omega) (fun g hg => (World.ownsRow.lt HOq.out g hg).1)
                clear hgrow7
                go_wp2_with fail
                go_roundw
                case rel => exact ⟨q + 1, O ++ [⟨yn, yc, yf, yu, ya, yb, yd, ye⟩], fd, by omega, by go_num, rfl, HD2, by simp; omega, by show World.ownsRow _ _ _ _ _ _ _; rw [ntc8_snoc']; simpa using hown7, hB7⟩
                case measure => simp [intOf]; omega
            · obtain rfl : q = M.length := by omega
              rw [List.take_length] at HD
              have hBw := below_trans hB3 hB4
              have HN := Lib.hid (nts_own HO.out)
              cases xc with
              | false =>
                have HFC3 : Hid (forceR ss [] = forceR (ss.drop (k + 1)) (putN ⟨xn, false, xf, xu, xa, xb, xd, xe⟩ M)) := show _ = _ from by rw [HFC2.out, if_neg (by simp)]
                have HPT := Lib.hid (fun (v : Value) W (h : NtsAt W v O) => rput_any v O ⟨xn, false, xf, xu, xa, xb, xd, xe⟩ W h (by omega) (by rw [HD.out.1]; exact dropN_asc HMA.out) (fun z hz => by rw [HD.out.1] at hz; exact dropN_ne hz))
                simp only at HPT
                have HPE : Hid (putN ⟨xn, false, xf, xu, xa, xb, xd, xe⟩ O = putN ⟨xn, false, xf, xu, xa, xb, xd, xe⟩ M) := show _ = _ from by rw [HD.out.1]; exact putN_drop _ M
                rw [HPE.out] at HPT
                go_wp2_with fail
                refine (HPT.out _ _ HN.out).mono ?_
                rintro e w7 ⟨v7, rfl, hn7, hb7⟩
                have HN7 := Lib.hid hn7
                clear hn7
                go_wp2_with fail
                go_roundw
                case rel => exact ⟨k + 1, _, by omega, by go_num, HN7.out, putN_asc HMA.out, by have := putN_len ⟨xn, false, xf, xu, xa, xb, xd, xe⟩ M; omega, HFC3.out, below_trans hBw hb7⟩
                case measure => simp [intOf]; omega
              | true =>
                cases fd with
                | false =>
                  have HE4 : Hid (FE = 4 ∧ FL = []) := show _ ∧ _ from by
                    have h := HFC2.out
                    rw [if_pos rfl, if_neg (by rw [← HD.out.2]; simp)] at h
                    rw [HE.out.1, HE.out.2, h]
                    exact ⟨rfl, rfl⟩
                  go_wp2_with fail
                  go_ret2
                  exact HBAD.out 4 _ HE4.out.1 HE4.out.2 hBw
                | true =>
                  have HFC3 : Hid (forceR ss [] = forceR (ss.drop (k + 1)) (dropN xn M)) := show _ = _ from by rw [HFC2.out, if_pos rfl, if_pos HD.out.2.symm]
                  go_wp2_with fail
                  go_roundw
                  case rel => exact ⟨k + 1, dropN xn M, by omega, by go_num, HD.out.1 ▸ HN.out, dropN_asc HMA.out, by have := dropN_len xn M; omega, HFC3.out, hBw⟩
                  case measure => simp [intOf]; omega
        · have HE2 : Hid (FE = E ∧ FL = []) := show _ ∧ _ from by
            have h := HF.out
            rw [HDR.out, HFC.out, if_pos hE] at h
            rw [HE.out.1, HE.out.2, h]
            exact ⟨rfl, rfl⟩
          have hE' : (E != 0) = true := by simpa using hE
          clear hE
          go_wp2_with fail
          go_ret2
          exact HBAD.out E _ HE2.out.1 HE2.out.2 hB3
      · obtain rfl : k = ss.length := by omega
        have HF2 : Hid (FE = 0 ∧ FL = M) := show _ ∧ _ from by
          have h := HF.out
          rw [List.drop_length] at h
          rw [HE.out.1, HE.out.2, h]
          exact ⟨rfl, rfl⟩
        obtain ⟨am, cm, rfl, hx⟩ := id HM.out
        clear hx
        go_wp2_with fail
        go_ret2
        exact HOK.out _ _ HF2.out.1 (HF2.out.2 ▸ HM.out) hB
end Go.Proofs.YtmglbegbijofkaaGreatDoor
/- ref.over, ref.covers. -/
namespace Go.Proofs.YtmglbegbijofkaaGreatDoor
open Go.RowKit
set_option maxRecDepth 100000 in
set_option maxHeartbeats 800000 in
theorem rover170 (a b c d : Int) (w : World) (h1 : -3000 ≤ a) (h2 : a ≤ 3000) (h3 : -3000 ≤ b) (h4 : b ≤ 3000) : Calls Tryz.prog 170 #[.agg #[.int .i64 a, .int .i64 b], .agg #[.int .i64 c, .int .i64 d]] w fun e w' => e = .returned (.bool (overB a b c d)) ∧ Below w.heap.size w w' := by
  have u1 := IntWalk.i64_in (1000000 * a) ⟨by omega, by omega⟩
  have u2 := IntWalk.i64_in (1000000 * b) ⟨by omega, by omega⟩
  have HE : Hid (overB a b c d = (decide (1000000 * a ≤ c) && decide (d ≤ 1000000 * b))) := show _ = _ from rfl
  by_cases q1 : 1000000 * a ≤ c
  · by_cases q2 : d ≤ 1000000 * b
    all_goals
      go_enter Tryz.func170, Tryz.ntmps170
      go_wp2_with fail
      go_ret
      exact ⟨ret_bool (by rw [HE.out]; simp [*] <;> omega), (by repeat (first | exact Below.refl _ _ | assumption | refine balloc ?_ _ | refine below_trans ?_ (by assumption) | refine Below.drew ?_ | refine below_drewN ?_ _ | refine Below.setCell ?_ (by simp <;> omega) _))⟩
  · go_enter Tryz.func170, Tryz.ntmps170
    go_wp2_with fail
    go_ret
    exact ⟨ret_bool (by rw [HE.out]; simp [*] <;> omega), (by repeat (first | exact Below.refl _ _ | assumption | refine balloc ?_ _ | refine below_trans ?_ (by assumption) | refine Below.drew ?_ | refine below_drewN ?_ _ | refine Below.setCell ?_ (by simp <;> omega) _))⟩
set_option maxRecDepth 100000 in
set_option maxHeartbeats 800000 in
theorem rcov129 (x : Impact) (n : NT) (hn : (-3000 ≤ n.xl ∧ n.xl ≤ 3000) ∧ (-3000 ≤ n.xh ∧ n.xh ≤ 3000) ∧ (-3000 ≤ n.yl ∧ n.yl ≤ 3000) ∧ -3000 ≤ n.yh ∧ n.yh ≤ 3000) (w : World) :
    Calls Tryz.prog 129 #[.agg #[.int .i64 n.n, .bool n.c, .int .i64 n.f, .int .i64 n.u, .int .i64 n.xl, .int .i64 n.xh, .int .i64 n.yl, .int .i64 n.yh], .agg #[.int .i64 x.p, .int .i64 x.xl, .int .i64 x.xh, .int .i64 x.yl, .int .i64 x.yh, .int .i64 x.tl, .int .i64 x.th]] w fun e w' => e = .returned (.bool (covB x n)) ∧ Below w.heap.size w w' := by
  obtain ⟨⟨k0, k1⟩, ⟨k2, k3⟩, ⟨k4, k5⟩, k6, k7⟩ := hn
  have HO1 := Lib.hid (fun W => rover170 n.xl n.xh x.xl x.xh W (by omega) (by omega) (by omega) (by omega))
  have HO2 := Lib.hid (fun W => rover170 n.yl n.yh x.yl x.yh W (by omega) (by omega) (by omega) (by omega))
  have HE : Hid (covB x n = (decide (n.f ≤ x.tl) && decide (x.th ≤ n.u) && overB n.xl n.xh x.xl x.xh && overB n.yl n.yh x.yl x.yh)) := show _ = _ from rfl
  generalize covB x n = CB at *
  generalize hr1 : overB n.xl n.xh x.xl x.xh = r1 at *
  generalize hr2 : overB n.yl n.yh x.yl x.yh = r2 at *
  clear hr1 hr2 k0 k1 k2 k3 k4 k5 k6 k7
  obtain ⟨nn, nc, nf, nu, nxl, nxh, nyl, nyh⟩ := n
  obtain ⟨xp, xxl, xxh, xyl, xyh, xtl, xth⟩ := x
  simp only at HO1 HO2 HE
  obtain ⟨hN, hX, hz, hb0⟩ := alloc2 w #[.int .i64 nn, .bool nc, .int .i64 nf, .int .i64 nu, .int .i64 nxl, .int .i64 nxh, .int .i64 nyl, .int .i64 nyh] #[.int .i64 xp, .int .i64 xxl, .int .i64 xxh, .int .i64 xyl, .int .i64 xyh, .int .i64 xtl, .int .i64 xth] 33 27
  clear hz
  obtain ⟨z0, z1, z2, z3, z4, z5, z6⟩ := cells7y hX
  obtain ⟨y0, y1, y2, y3, y4, y5, y6, y7⟩ := cells8 hN
  go_enter Tryz.func129, Tryz.ntmps129
  by_cases q1 : nf ≤ xtl
  · by_cases q2 : xth ≤ nu
    · have q3 : nu ≥ xth := q2
      go_wp2_with fail
      refine (HO1.out _).mono ?_
      rintro e w3 ⟨rfl, hb3⟩
      clear z0 z1 z2 z3 z4 z5 z6 y0 y1 y2 y3 y4 y5 y6 y7
      have hB3 := below_trans hb0 hb3
      obtain ⟨z0, z1, z2, z3, z4, z5, z6⟩ := cells7y (hX.below hb3)
      obtain ⟨y0, y1, y2, y3, y4, y5, y6, y7⟩ := cells8 (hN.below hb3)
      cases r1 with
      | false =>
        go_wp2_with fail
        go_ret
        exact ⟨ret_bool (by rw [HE.out]; simp [*] <;> omega), hB3⟩
      | true =>
        go_wp2_with fail
        refine (HO2.out _).mono ?_
        rintro e w4 ⟨rfl, hb4⟩
        clear z0 z1 z2 z3 z4 z5 z6 y0 y1 y2 y3 y4 y5 y6 y7
        go_wp2_with fail
        go_ret
        exact ⟨ret_bool (by rw [HE.out]; simp [*] <;> omega), below_trans hB3 hb4⟩
    · go_wp2_with fail
      go_ret
      exact ⟨ret_bool (by rw [HE.out]; simp [*] <;> omega), hb0⟩
  · go_wp2_with fail
    go_ret
    exact ⟨ret_bool (by rw [HE.out]; simp [*] <;> omega), hb0⟩
end Go.Proofs.YtmglbegbijofkaaGreatDoor
/- ref.Covers, ref.Force. -/
namespace Go.Proofs.YtmglbegbijofkaaGreatDoor
open Go.RowKit Go.Maps Go.Shelf
theorem headN_drop {p : NT → Bool} {L : List NT} {k : Nat} (h : k < L.length) : headN ((L.drop k).filter p) = if p L[k] then L[k].n else headN ((L.drop (k + 1)).filter p) := by
  rw [List.drop_eq_getElem_cons h, List.filter_cons]
  split <;> rfl
set_option maxRecDepth 100000 in
set_option maxHeartbeats 2000000 in
theorem rcovers_any (ss : List (List UInt8)) (v : Value) (x : Impact) (w : World) (hv : StrsAt w v ss) (hs : ∀ s ∈ ss, s.length ≤ 8796093022000) (hl : ss.length ≤ 9223372036854775806) :
    Calls Tryz.prog 57 #[v, .agg #[.int .i64 x.p, .int .i64 x.xl, .int .i64 x.xh, .int .i64 x.yl, .int .i64 x.yh, .int .i64 x.tl, .int .i64 x.th]] w fun e w' => e = .returned (.tuple #[.int .i64 (covN ss x), .int .i64 (covE ss x)]) ∧ Below w.heap.size w w' := by
  have HV := Lib.hid hv
  have HF := Lib.hid (fun W (h : StrsAt W v ss) => rforce_any ss v W h hs hl)
  clear hv hs hl
  have HST := Lib.hid (fun W => rimpact_any x.p x.xl x.xh x.yl x.yh x.tl x.th W)
  have HEND : Hid (∀ n k w', covE ss x = k → (k = 0 → headN ((forceL ss).filter (covB x)) = n) → (¬ k = 0 → n = 0) → Below w.heap.size w w' → .returned (.tuple #[.int .i64 n, .int .i64 k]) = Ending.returned (.tuple #[.int .i64 (covN ss x), .int .i64 (covE ss x)]) ∧ Below w.heap.size w w') := show ∀ _ _ _, _ → _ → _ → _ → _ from fun n k w' h1 h2 h3 h4 => by
    refine ⟨?_, h4⟩
    unfold covN
    rw [h1]
    by_cases hk : k = 0
    · rw [if_pos hk, h2 hk]
    · rw [if_neg hk, h3 hk]
  have HCE : Hid (covE ss x = if forceE ss ≠ 0 then forceE ss else if strangeB x.p x.xl x.xh x.yl x.yh x.tl x.th then 7 else 0) := show _ = _ from rfl
  have HRC := Lib.hid (fun (y : NT) (h : okN y = true) W => rcov129 x y (okN_bd h) W)
  have HLO := Lib.hid (forceL_ok ss)
  have HLL := forceL_len ss
  generalize covN ss x = CN at *
  generalize covE ss x = CE at *
  unfold RFPost at HF
  generalize forceE ss = FE at *
  generalize forceL ss = L at *
  have HHD : Hid (∀ k, (h : k < L.length) → headN ((L.drop k).filter (covB x)) = if covB x L[k] then L[k].n else headN ((L.drop (k + 1)).filter (covB x))) := show ∀ _ _, _ from fun k h => headN_drop h
  generalize hst : strangeB x.p x.xl x.xh x.yl x.yh x.tl x.th = sb at *
  clear hst
  generalize hcf : covB x = cf at *
  clear hcf
  obtain ⟨xp, xxl, xxh, xyl, xyh, xtl, xth⟩ := x
  simp only at HST HRC
  go_enter Tryz.func57, Tryz.ntmps57
  go_wp2_with fail
  have hX := cellsNew w #[.int .i64 xp, .int .i64 xxl, .int .i64 xxh, .int .i64 xyl, .int .i64 xyh, .int .i64 xtl, .int .i64 xth] 27
  have hB : Below w.heap.size w (w.alloc (.cells #[.int .i64 xp, .int .i64 xxl, .int .i64 xxh, .int .i64 xyl, .int .i64 xyh, .int .i64 xtl, .int .i64 xth] 27)) := balloc (Below.refl _ _) _
  generalize w.alloc (.cells #[.int .i64 xp, .int .i64 xxl, .int .i64 xxh, .int .i64 xyl, .int .i64 xyh, .int .i64 xtl, .int .i64 xth] 27) = W1 at *
  refine (HF.out W1 (HV.out.below hB)).mono ?_
  rintro e w2 ⟨v2, rfl, hn2, hb2⟩
  have hX2 := hX.below hb2
  have hB2 := below_trans hB hb2
  have HN2 := Lib.hid hn2
  clear hX hB hb2 hn2
  by_cases hfe : FE = 0
  · subst hfe
    obtain ⟨z0, z1, z2, z3, z4, z5, z6⟩ := cells7y hX2
    go_wp2_with fail
    refine (HST.out _).mono ?_
    rintro e w3 ⟨rfl, hb3⟩
    clear z0 z1 z2 z3 z4 z5 z6
    have hX3 := hX2.below hb3
    have hB3 := below_trans hB2 hb3
    have HN3 := Lib.hid (HN2.out.below hb3)
    clear hX2 hB2 HN2 hb3
    cases sb with
    | true =>
      have HC2 : Hid (CE = 7) := show _ = _ from by rw [HCE.out]; simp
      go_wp2_with fail
      go_ret2
      exact HEND.out 0 7 _ HC2.out (fun h => by omega) (fun _ => rfl) hB3
    | false =>
      have HC2 : Hid (CE = 0) := show _ = _ from by rw [HCE.out]; simp
      obtain ⟨am, cm, rfl, hx⟩ := id HN3.out
      clear hx
      go_wp2_with fail
      go_loopw [8] (fun i wr => ∃ k : Nat, k ≤ L.length ∧ i = .int .i64 k ∧ Hid (headN (L.filter cf) = headN ((L.drop k).filter cf)) ∧ Below w3.heap.size w3 wr) (fun i _ => L.length - (intOf i).toNat)
      case atStart => exact ⟨0, Nat.zero_le _, rfl, show _ = _ from by rw [List.drop_zero], Below.refl _ _⟩
      case round =>
        obtain ⟨k, hk, rfl, HH, hBw⟩ := hrel
        have hB := below_trans hB3 hBw
        obtain ⟨z0, z1, z2, z3, z4, z5, z6⟩ := cells7y (hX3.below hBw)
        by_cases hlt : k < L.length
        · obtain ⟨b, off, rfl⟩ := nts_some HN3.out (by omega)
          have HCV := Lib.hid (HRC.out L[k] (HLO.out _ (List.getElem_mem hlt)))
          have HH2 : Hid (headN (L.filter cf) = if cf L[k] then L[k].n else headN ((L.drop (k + 1)).filter cf)) := show _ = _ from by rw [HH.out, HHD.out k hlt]
          clear HH
          generalize cf L[k] = cb at *
          obtain ⟨y, HY⟩ : ∃ y, Hid (L[k] = y) := ⟨_, show _ = _ from rfl⟩
          rw [HY.out] at HCV HH2
          have hE0 := nt_at (HN3.out.below hBw) hlt HY.out
          obtain ⟨yn, yc, yf, yu, ya, yb, yd, ye⟩ := y
          simp only at hE0 HCV HH2
          obtain ⟨e0, e1, e2, e3, e4, e5, e6, e7⟩ := hE0
          have i1 : (0 : Int) ≤ (k : Int) := by omega
          have i2 : (k : Int) < (L.length : Int) := by omega
          have hBd := hBw.drew
          go_wp2_with fail
          go_region_held3 (fun wr' => wr'.cell? ⟨w.heap.size, 0, none⟩ = some (.int .i64 xp) ∧ wr'.cell? ⟨w.heap.size, 1, none⟩ = some (.int .i64 xxl) ∧ wr'.cell? ⟨w.heap.size, 2, none⟩ = some (.int .i64 xxh) ∧ wr'.cell? ⟨w.heap.size, 3, none⟩ = some (.int .i64 xyl) ∧ wr'.cell? ⟨w.heap.size, 4, none⟩ = some (.int .i64 xyh) ∧ wr'.cell? ⟨w.heap.size, 5, none⟩ = some (.int .i64 xtl) ∧ wr'.cell? ⟨w.heap.size, 6, none⟩ = some (.int .i64 xth) ∧ wr'.cell? ⟨b, off + k * 8, none⟩ = some (.int .i64 yn) ∧ wr'.cell? ⟨b, off + k * 8 + 1, none⟩ = some (.bool yc) ∧ wr'.cell? ⟨b, off + k * 8 + 2, none⟩ = some (.int .i64 yf) ∧ wr'.cell? ⟨b, off + k * 8 + 3, none⟩ = some (.int .i64 yu) ∧ wr'.cell? ⟨b, off + k * 8 + 4, none⟩ = some (.int .i64 ya) ∧ wr'.cell? ⟨b, off + k * 8 + 5, none⟩ = some (.int .i64 yb) ∧ wr'.cell? ⟨b, off + k * 8 + 6, none⟩ = some (.int .i64 yd) ∧ wr'.cell? ⟨b, off + k * 8 + 7, none⟩ = some (.int .i64 ye)) (first | (with_reducible exact ⟨z0, z1, z2, z3, z4, z5, z6, e0, e1, e2, e3, e4, e5, e6, e7⟩) | go_keep) ((go_at_call 129; refine (HCV.out _).mono ?_; rintro e w7 ⟨rfl, hbA⟩; have z0 := below_cell hbA z0; have z1 := below_cell hbA z1; have z2 := below_cell hbA z2; have z3 := below_cell hbA z3; have z4 := below_cell hbA z4; have z5 := below_cell hbA z5; have z6 := below_cell hbA z6; have e0 := below_cell hbA e0; have e1 := below_cell hbA e1; have e2 := below_cell hbA e2; have e3 := below_cell hbA e3; have e4 := below_cell hbA e4; have e5 := below_cell hbA e5; have e6 := below_cell hbA e6; have e7 := below_cell hbA e7; have hBd := below_trans hBd hbA))
          all_goals
            cases cb with
            | true =>
              go_wp2_with fail
              go_ret2
              exact HEND.out yn 0 _ HC2.out (fun _ => by rw [HH2.out]; simp) (fun h => absurd rfl h) (below_trans hB3 hBd)
            | false =>
              go_wp2_with fail
              go_roundw
              case rel => exact ⟨k + 1, by omega, by go_num, show _ = _ from by rw [HH2.out]; simp, hBd⟩
              case measure => simp [intOf]; omega
        · obtain rfl : k = L.length := by omega
          have HH2 : Hid (headN (L.filter cf) = 0) := show _ = _ from by rw [HH.out, List.drop_length]; rfl
          go_wp2_with fail
          go_ret2
          exact HEND.out 0 0 _ HC2.out (fun _ => HH2.out) (fun h => absurd rfl h) hB
  · have hfe' : (FE != 0) = true := by simpa using hfe
    have hfe2 : (FE == 0) = false := by simpa using hfe
    have HC2 : Hid (CE = FE) := show _ = _ from by rw [HCE.out, if_pos hfe]
    have HN := Lib.hid hfe
    clear hfe
    go_wp2_with fail
    go_ret2
    exact HEND.out 0 FE _ HC2.out (fun h => absurd h HN.out) (fun _ => rfl) hB2
def FcPost (w : World) (ss : List (List UInt8)) (t : Int) (e : Ending) (w' : World) : Prop := ∃ v', e = .returned (.tuple #[v', .int .i64 (fcE ss t)]) ∧ NtsAt w' v' (fcL ss t) ∧ Below w.heap.size w w'
set_option maxRecDepth 100000 in
set_option maxHeartbeats 2000000 in
theorem rForce_any (ss : List (List UInt8)) (v : Value) (t : Int) (w : World) (hv : StrsAt w v ss) (hs : ∀ s ∈ ss, s.length ≤ 8796093022000) (hl : ss.length ≤ 9223372036854775806) :
    Calls Tryz.prog 55 #[v, .int .i64 t] w (FcPost w ss t) := by
  obtain ⟨i0, hi, hz0, hz1, hz2⟩ := info_parts Tryz.info33
  have HV := Lib.hid hv
  have HF := Lib.hid (fun W (h : StrsAt W v ss) => rforce_any ss v W h hs hl)
  clear hv hs hl
  have HIN := Lib.hid (fun W => in_any t 0 100000 W)
  have HEND : Hid (∀ v' k w', fcE ss t = k → NtsAt w' v' (if k = 0 then (forceL ss).filter (tickB t) else []) → Below w.heap.size w w' → FcPost w ss t (.returned (.tuple #[v', .int .i64 k])) w') := show ∀ _ _ _, _ → _ → _ → _ from fun v' k w' h1 h2 h3 => by
    refine ⟨v', by rw [h1], ?_, h3⟩
    unfold fcL
    rw [h1]
    exact h2
  have HCE : Hid (fcE ss t = if forceE ss ≠ 0 then forceE ss else if outB t 0 100000 then 7 else 0) := show _ = _ from rfl
  have HLL := forceL_len ss
  have HTB : Hid (∀ y : NT, tickB t y = !outB t y.f y.u) := show ∀ _, _ from fun y => by
    unfold tickB outB
    rw [Bool.eq_iff_iff]
    simp
  have HI2 := Lib.hid (fun (y : NT) W => in_any t y.f y.u W)
  generalize fcE ss t = CE at *
  unfold RFPost at HF
  generalize forceE ss = FE at *
  generalize forceL ss = L at *
  generalize outB t 0 100000 = ob at *
  go_enter Tryz.func55, Tryz.ntmps55
  go_wp2_with fail
  refine (HF.out w HV.out).mono ?_
  rintro e w2 ⟨v2, rfl, hn2, hB2⟩
  have HN2 := Lib.hid hn2
  clear hn2
  by_cases hfe : FE = 0
  · subst hfe
    go_wp2_with fail
    refine (HIN.out _).mono ?_
    rintro e w3 ⟨rfl, rfl⟩
    cases ob with
    | true =>
      have HC2 : Hid (CE = 7) := show _ = _ from by rw [HCE.out]; simp
      go_wp2_with fail
      go_ret2
      exact HEND.out _ 7 _ HC2.out (nts_nil _ _ _ rfl) hB2
    | false =>
      have HC2 : Hid (CE = 0) := show _ = _ from by rw [HCE.out]; simp
      obtain ⟨am, cm, rfl, hx⟩ := id HN2.out
      clear hx
      go_wp2_with fail
      go_loopw [8, 9] (fun ov i wr => ∃ k : Nat, k ≤ L.length ∧ i = .int .i64 k ∧ Hid (wr.ownsRow w2.heap.size 33 8 ov ((L.take k).filter (tickB t)).length (ntc8 ((L.take k).filter (tickB t)))) ∧ Below w2.heap.size w2 wr) (fun _ i _ => L.length - (intOf i).toNat)
      case atStart => exact ⟨0, Nat.zero_le _, rfl, World.ownsRow_nil _ _ _ _, Below.refl _ _⟩
      case round =>
        obtain ⟨k, hk, rfl, HO, hBw⟩ := hrel
        have hB := below_trans hB2 hBw
        by_cases hlt : k < L.length
        · obtain ⟨b, off, rfl⟩ := nts_some HN2.out (by omega)
          have HFT := Lib.hid (filter_take_succ (p := tickB t) hlt)
          have HIN2 := Lib.hid (HI2.out L[k])
          have HTK := Lib.hid (HTB.out L[k])
          have hfl : ((L.take k).filter (tickB t)).length ≤ k := Nat.le_trans (List.length_filter_le _ _) (by simp; omega)
          obtain ⟨FT, hFT⟩ : ∃ FT, (L.take k).filter (tickB t) = FT := ⟨_, rfl⟩
          rw [hFT] at HO HFT hfl
          clear hFT
          generalize hob2 : outB t L[k].f L[k].u = ob2 at *
          clear hob2
          generalize tickB t L[k] = tb at *
          obtain ⟨y, HY⟩ : ∃ y, Hid (L[k] = y) := ⟨_, show _ = _ from rfl⟩
          rw [HY.out] at HIN2 HFT
          have hE0 := nt_at (HN2.out.below hBw) hlt HY.out
          obtain ⟨yn, yc, yf, yu, ya, yb, yd, ye⟩ := y
          simp only at hE0 HIN2
          obtain ⟨e0, e1, e2, e3, e4, e5, e6, e7⟩ := hE0
          have i1 : (0 : Int) ≤ (k : Int) := by omega
          have i2 : (k : Int) < (L.length : Int) := by omega
          cases ob2 with
          | true =>
            go_wp2_with fail
            go_quiet ((go_at_call 69; exact qsame (HIN2.out _)))
            have hBq := below_drewN' (Below.refl _ wr) nq
            have HOq := Lib.hid (ownsRow_below HO.out hBq)
            have hBw := below_trans hBw hBq
            generalize wr.drewN nq = wq at *
            have e0 := below_cell hBq e0
            have e1 := below_cell hBq e1
            have e2 := below_cell hBq e2
            have e3 := below_cell hBq e3
            have e4 := below_cell hBq e4
            have e5 := below_cell hBq e5
            have e6 := below_cell hBq e6
            have e7 := below_cell hBq e7
            clear hBq
            go_wp2_with fail
            go_roundw
            case rel => exact ⟨k + 1, by omega, by go_num, by show World.ownsRow _ _ _ _ _ _ _; rw [HFT.out, HTK.out]; simpa using HOq.out, hBw⟩
            case measure => simp [intOf]; omega
          | false =>
            go_wp2_with fail
            go_quiet ((go_at_call 69; exact qsame (HIN2.out _)))
            have hBq := below_drewN' (Below.refl _ wr) nq
            have HOq := Lib.hid (ownsRow_below HO.out hBq)
            have hBw := below_trans hBw hBq
            generalize wr.drewN nq = wq at *
            have e0 := below_cell hBq e0
            have e1 := below_cell hBq e1
            have e2 := below_cell hBq e2
            have e3 := below_cell hBq e3
            have e4 := below_cell hBq e4
            have e5 := below_cell hBq e5
            have e6 := below_cell hBq e6
            have e7 := below_cell hBq e7
            clear hBq
            go_wp2_with (at_builtin; refine wpList_append_own _ rfl _ _ 114 rfl w2.heap.size 33 i0 _ 8 64 Tryz.underlying114 hi hz0 hz1 hz2 rfl (by decide) _ _ _ rfl (World.ownsRow.alloc HOq.out _) ⟨wq.heap.size, 0, none⟩ 1 1 [.int .i64 yn, .bool yc, .int .i64 yf, .int .i64 yu, .int .i64 ya, .int .i64 yb, .int .i64 yd, .int .i64 ye] rfl rfl ?c1 ?c2 ?c3 ?c4 ?c5 ?_)
            case c1 => exact World.news_of_block (cs := #[.int .i64 yn, .bool yc, .int .i64 yf, .int .i64 yu, .int .i64 ya, .int .i64 yb, .int .i64 yd, .int .i64 ye]) (t := 33) (fr := (0, 0)) (heap_alloc_new wq _)
            case c2 => simp [Value.oneCell']
            case c3 => unfold maxLen; omega
            case c4 => omega
            case c5 => have := hBw.size; simp; omega
            intro v7 w7 hown7 hgrow7 _
            have hB7 : Below w2.heap.size w2 w7 := (hBw.alloc hBw.size _).grown hgrow7 (by have := hBw.size; simp; omega) (fun g hg => (World.ownsRow.lt HOq.out g hg).1)
            clear hgrow7
            go_wp2_with fail
            go_roundw
            case rel => exact ⟨k + 1, by omega, by go_num, by show World.ownsRow _ _ _ _ _ _ _; rw [HFT.out, HTK.out]; simp only [Bool.not_false, if_true]; rw [ntc8_snoc']; simpa using hown7, hB7⟩
            case measure => simp [intOf]; omega
        · obtain rfl : k = L.length := by omega
          rw [List.take_length] at HO
          go_wp2_with fail
          go_ret2
          exact HEND.out _ 0 _ HC2.out (by rw [if_pos rfl]; exact nts_own HO.out) hB
  · have hfe' : (FE != 0) = true := by simpa using hfe
    have hfe2 : (FE == 0) = false := by simpa using hfe
    have HC2 : Hid (CE = FE) := show _ = _ from by rw [HCE.out, if_pos hfe]
    have HN := Lib.hid hfe
    clear hfe
    go_wp2_with fail
    go_ret2
    exact HEND.out _ FE _ HC2.out (by rw [if_neg HN.out]; exact nts_nil _ _ _ rfl) hB2
end Go.Proofs.YtmglbegbijofkaaGreatDoor
/- hazard.Force with its closure; ref.SameNotices of equal lists. -/
namespace Go.Proofs.YtmglbegbijofkaaGreatDoor
open Go.RowKit Go.Maps Go.Shelf
set_option maxRecDepth 100000 in
set_option maxHeartbeats 800000 in
theorem tick127 (t : Int) (n : NT) (tb : Nat) (w : World) (ht : w.cell? ⟨tb, 0, none⟩ = some (.int .i64 t)) :
    Calls Tryz.prog 127 #[.agg #[.int .i64 n.n, .bool n.c, .int .i64 n.f, .int .i64 n.u, .int .i64 n.xl, .int .i64 n.xh, .int .i64 n.yl, .int .i64 n.yh], .pointer (some ⟨tb, 0, none⟩)] w fun e w' => e = .returned (.bool (tickB t n)) ∧ Below w.heap.size w w' := by
  have hol := World.block_lt_of_cell? _ _ ht
  have HE : Hid (tickB t n = !outB t n.f n.u) := show _ = _ from by
    unfold tickB outB
    rw [Bool.eq_iff_iff]
    simp
  obtain ⟨nn, nc, nf, nu, nxl, nxh, nyl, nyh⟩ := n
  simp only at HE
  have hN := cellsNew w #[.int .i64 nn, .bool nc, .int .i64 nf, .int .i64 nu, .int .i64 nxl, .int .i64 nxh, .int .i64 nyl, .int .i64 nyh] 33
  have hb0 : Below w.heap.size w (w.alloc (.cells #[.int .i64 nn, .bool nc, .int .i64 nf, .int .i64 nu, .int .i64 nxl, .int .i64 nxh, .int .i64 nyl, .int .i64 nyh] 33)) := balloc (Below.refl _ _) _
  have hT := below_cell hb0 ht
  obtain ⟨y0, y1, y2, y3, y4, y5, y6, y7⟩ := cells8 hN
  have HO := Lib.hid (fun W => out_any t nf nu W)
  generalize outB t nf nu = ob at *
  go_enter Tryz.func127, Tryz.ntmps127
  go_wp2_with (go_at_call 64; refine (HO.out _).mono ?_; rintro e w' ⟨rfl, rfl⟩)
  go_ret
  exact ⟨ret_bool (by rw [HE.out]), hb0⟩
set_option maxRecDepth 100000 in
set_option maxHeartbeats 2000000 in
theorem hForce_any (ss : List (List UInt8)) (v : Value) (t : Int) (w : World) (hv : StrsAt w v ss) (hs : ∀ s ∈ ss, s.length ≤ 8796093022000) (hl : ss.length ≤ 9223372036854775806) :
    Calls Tryz.prog 54 #[v, .int .i64 t] w (FcPost w ss t) := by
  have HV := Lib.hid hv
  have HF := Lib.hid (fun W (h : StrsAt W v ss) => hforce_any ss v W h hs hl)
  clear hv hs hl
  have HO := Lib.hid (fun W => out_any t 0 100000 W)
  have HEND : Hid (∀ v' k w', fcE ss t = k → NtsAt w' v' (if k = 0 then (forceL ss).filter (tickB t) else []) → Below w.heap.size w w' → FcPost w ss t (.returned (.tuple #[v', .int .i64 k])) w') := show ∀ _ _ _, _ → _ → _ → _ from fun v' k w' h1 h2 h3 => by
    refine ⟨v', by rw [h1], ?_, h3⟩
    unfold fcL
    rw [h1]
    exact h2
  have HCE : Hid (fcE ss t = if forceE ss ≠ 0 then forceE ss else if outB t 0 100000 then 7 else 0) := show _ = _ from rfl
  have HCC := Lib.hid (fun (tb b nn : Nat) (D : DataW Unit) (W : World) (h1 : W.cell? ⟨tb, 0, none⟩ = some (.int .i64 t)) h3 h4 => callsIn_wide.1 (chosen_tick (tickB t) tb b nn D W (fun y W2 hb => tick127 t y.1 tb W2 (below_cell hb h1)) h3 h4))
  have HCL : Hid (∀ (D : DataW Unit) (qs : List NT) (ps : List (Int × NTo)), NtRel D (forceL ss) → AllOfN D (ps.map pairN) → qs.Perm (chP (tickB t) (ps.map (·.2))) → (qs.Pairwise fun x y => x.n ≤ y.n) → qs = (forceL ss).filter (tickB t)) := show ∀ _ _ _, _ → _ → _ → _ → _ from fun D qs ps h1 h2 h3 h4 => chosen_list h1 h2 h3 h4
  generalize fcE ss t = CE at *
  generalize (forceL ss).filter (tickB t) = CL at *
  unfold FPost at HF
  generalize forceE ss = FE at *
  generalize outB t 0 100000 = ob at *
  go_enter Tryz.func54, Tryz.ntmps54
  go_wp2_with fail
  have hX := cellsNew w #[.int .i64 t] 3
  have hB : Below w.heap.size w (w.alloc (.cells #[.int .i64 t] 3)) := balloc (Below.refl _ _) _
  generalize w.alloc (.cells #[.int .i64 t] 3) = W1 at *
  refine (HF.out W1 (HV.out.below hB)).mono ?_
  rintro e w2 (⟨hfe, rfl, hb2⟩ | ⟨rfl, b, D, nn, rfl, hbb, hown, hnn, hR, hb2⟩)
  · have hfe' : (FE != 0) = true := by simpa using hfe
    have HC2 : Hid (CE = FE) := show _ = _ from by rw [HCE.out, if_pos hfe]
    have HN := Lib.hid hfe
    clear hfe
    go_wp2_with fail
    go_ret2
    exact HEND.out _ FE _ HC2.out (by rw [if_neg HN.out]; exact nts_nil _ _ _ rfl) (below_trans hB hb2)
  · have hX2 := hX.below hb2
    have hB2 := below_trans hB hb2
    have HOWN := Lib.hid hown
    have HRR := Lib.hid hR
    clear hown hR
    have z0 := hX2.cell 0
    cases ob with
    | true =>
      have HC2 : Hid (CE = 7) := show _ = _ from by rw [HCE.out]; simp
      go_wp2_with (go_at_call 64; refine (HO.out _).mono ?_; rintro e w' ⟨rfl, rfl⟩)
      go_ret2
      exact HEND.out _ 7 _ HC2.out (nts_nil _ _ _ rfl) hB2
    | false =>
      have HC2 : Hid (CE = 0) := show _ = _ from by rw [HCE.out]; simp
      have HCC2 := Lib.hid (HCC.out w.heap.size b nn D w2 z0 HOWN.out (Nat.le_trans HOWN.out.size_le (by omega)))
      go_wp2_with (first | (go_at_call 64; refine (HO.out _).mono ?_; rintro e w' ⟨rfl, rfl⟩) | fail)
      refine HCC2.out.mono ?_
      rintro e w5 ⟨v5, ps, qs, rfl, ha, hp, hs5, hr5, hb5⟩
      obtain rfl : qs = CL := HCL.out D qs ps HRR.out ha hp hs5
      go_wp2_with fail
      go_ret2
      exact HEND.out _ 0 _ HC2.out (by rw [if_pos rfl]; exact hr5) (below_trans hB2 hb5)
set_option maxRecDepth 100000 in
set_option maxHeartbeats 800000 in
theorem sameNotices_any (va vb : Value) (l : List NT) (w : World) (ha : NtsAt w va l) (hb : NtsAt w vb l) (hn : l.length ≤ 1000000) : Calls Tryz.prog 56 #[va, vb] w fun e w' => e = .returned (.bool true) ∧ Below w.heap.size w w' := by
  obtain ⟨a1, c1, rfl, hr1⟩ := ha
  obtain ⟨a2, c2, rfl, hr2⟩ := hb
  go_enter Tryz.func56, Tryz.ntmps56
  go_wp2_with fail
  go_loopw [5] (fun i wr => ∃ k : Nat, k ≤ l.length ∧ i = .int .i64 k ∧ Below w.heap.size w wr) (fun i _ => l.length - (intOf i).toNat)
  case atStart => exact ⟨0, Nat.zero_le _, rfl, Below.refl _ _⟩
  case round =>
    obtain ⟨k, hk, rfl, hB⟩ := hrel
    by_cases hlt : k < l.length
    · rcases hr1 with h0 | ⟨b, off, rfl, hb, hc⟩
      · omega
      · rcases hr2 with h0 | ⟨b', off', rfl, hb', hc'⟩
        · omega
        · obtain ⟨e0, e1, e2, e3, e4, e5, e6, e7⟩ := nt_cells hc hlt
          obtain ⟨d0, d1, d2, d3, d4, d5, d6, d7⟩ := nt_cells hc' hlt
          have e0 := (hB.cell (p := ⟨b, off + k * 8, none⟩) hb).trans e0
          have e1 := (hB.cell (p := ⟨b, off + k * 8 + 1, none⟩) hb).trans e1
          have e2 := (hB.cell (p := ⟨b, off + k * 8 + 2, none⟩) hb).trans e2
          have e3 := (hB.cell (p := ⟨b, off + k * 8 + 3, none⟩) hb).trans e3
          have e4 := (hB.cell (p := ⟨b, off + k * 8 + 4, none⟩) hb).trans e4
          have e5 := (hB.cell (p := ⟨b, off + k * 8 + 5, none⟩) hb).trans e5
          have e6 := (hB.cell (p := ⟨b, off + k * 8 + 6, none⟩) hb).trans e6
          have e7 := (hB.cell (p := ⟨b, off + k * 8 + 7, none⟩) hb).trans e7
          have d0 := (hB.cell (p := ⟨b', off' + k * 8, none⟩) hb').trans d0
          have d1 := (hB.cell (p := ⟨b', off' + k * 8 + 1, none⟩) hb').trans d1
          have d2 := (hB.cell (p := ⟨b', off' + k * 8 + 2, none⟩) hb').trans d2
          have d3 := (hB.cell (p := ⟨b', off' + k * 8 + 3, none⟩) hb').trans d3
          have d4 := (hB.cell (p := ⟨b', off' + k * 8 + 4, none⟩) hb').trans d4
          have d5 := (hB.cell (p := ⟨b', off' + k * 8 + 5, none⟩) hb').trans d5
          have d6 := (hB.cell (p := ⟨b', off' + k * 8 + 6, none⟩) hb').trans d6
          have d7 := (hB.cell (p := ⟨b', off' + k * 8 + 7, none⟩) hb').trans d7
          generalize l[k] = y at *
          obtain ⟨yn, yc, yf, yu, ya, yb, yd, ye⟩ := y
          simp only at e0 e1 e2 e3 e4 e5 e6 e7 d0 d1 d2 d3 d4 d5 d6 d7
          have i1 : (0 : Int) ≤ (k : Int) := by omega
          have i2 : (k : Int) < (l.length : Int) := by omega
          clear hc hc'
          go_wp2_with fail
          go_quiet (fail)
          go_wp2_with fail
          go_roundw
          case rel => exact ⟨k + 1, by omega, by go_num, below_drewN' hB _⟩
          case measure => simp [intOf]; omega
    · obtain rfl : k = l.length := by omega
      go_wp2_with fail
      go_ret
      exact ⟨rfl, hB⟩
end Go.Proofs.YtmglbegbijofkaaGreatDoor
