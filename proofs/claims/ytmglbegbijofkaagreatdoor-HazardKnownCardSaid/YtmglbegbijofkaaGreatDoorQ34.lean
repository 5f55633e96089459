import Derived.Maps.OwnSet
import Derived.Maps.OwnOps
import Derived.WalkArith
import Derived.Test.YtmglbegbijofkaaGreatDoorQ33
set_option linter.unusedVariables false
set_option linter.unusedSimpArgs false
/- hazard.force: the notices in force after some strings. -/
namespace Go.Proofs.YtmglbegbijofkaaGreatDoor
open Go.RowKit Go.Maps Go.Shelf
theorem zero33 (w : World) : (zeroValue 33).run Tryz.prog w = .ok (.agg (ntV zeroNT)) w := by kernel_rfl
theorem wpList_lookup_nt {H : Type} (w : World) {ops : Array Oper} {rest : List Oper} {o : Oper} {a : Act} {Q : Exit → Act → World → Prop} (hg : o.guard = none) (m x : Operand) (hop : o.op = Op.lookup 188 m x true) (b n : Nat) (D : DataW H)
    (hm : a.eval m = .map (some b)) (hown : w.ownsMap Tryz.prog 3 ntR b n D) (key : Value) (kl : Lit) (hx : a.eval x = key) (hkey : keyOf Tryz.prog 3 key = some kl)
    (hK : ∀ y : NT, wpList Tryz.prog ops Q rest (a.put o.dst (.tuple #[.agg #[.int .i64 y.n, .bool y.c, .int .i64 y.f, .int .i64 y.u, .int .i64 y.xl, .int .i64 y.xh, .int .i64 y.yl, .int .i64 y.yh], .bool (Maps.has D kl)])) w) :
    wpList Tryz.prog ops Q (o :: rest) a w :=
  wpList_lookup_own_ok w hg m x 188 hop 3 33 lawI3 Tryz.underlying188 ntR (zero33 w) (ntD zeroNT) [] (ntR_mk zeroNT rfl) b n D hm hown key kl hx hkey (fun v ps hv => by
    obtain ⟨y, rfl, _⟩ := ntR_inv hv
    exact hK y.1)
theorem owns_below {H : Type} {w W : World} {b nn : Nat} {D0 : DataW H} (hown : w.ownsMap Tryz.prog 3 ntR b nn D0) (hW : Below w.heap.size w W) : W.ownsMap Tryz.prog 3 ntR b nn D0 := by
  have hbl := hown.lt
  obtain ⟨es, clock, hb, Ft, hs, hD⟩ := hown
  exact ⟨es, clock, (hW.block b hbl).trans hb, Ft, hs, hD⟩
/-- strings in a row -/
abbrev StrsAt (w : World) (v : Value) (ss : List (List UInt8)) : Prop := RowAt w v ss.length 1 (fun i => .string ⟨(ss[i]?.getD []).toArray⟩)
def FPost (w : World) (ss : List (List UInt8)) (e : Ending) (w' : World) : Prop :=
  (¬ forceE ss = 0 ∧ e = .returned (.tuple #[.map none, .int .i64 (forceE ss)]) ∧ Below w.heap.size w w') ∨
  (forceE ss = 0 ∧ ∃ (b : Nat) (D : DataW Unit) (nn : Nat), e = .returned (.tuple #[.map (some b), .int .i64 0]) ∧ w.heap.size ≤ b ∧ w'.ownsMap Tryz.prog 3 ntR b nn D ∧ nn ≤ 60 ∧ NtRel D (forceL ss) ∧ Below w.heap.size w w')
set_option maxRecDepth 100000 in
set_option maxHeartbeats 4000000 in
theorem hforce_any (ss : List (List UInt8)) (v : Value) (w : World) (hv : StrsAt w v ss) (hs : ∀ s ∈ ss, s.length ≤ 8796093022000) (hl : ss.length ≤ 9223372036854775806) : Calls Tryz.prog 117 #[v] w (fun e w' => FPost w ss e w') := by
  have hmm := @run_makeMap Tryz.prog
  obtain ⟨a, c, rfl, hx⟩ := id hv
  clear hx
  have HV := Lib.hid hv
  have HSZ := Lib.hid hs
  clear hv hs
  have HBAD : Hid (∀ k w', forceE ss = k → ¬ k = 0 → Below w.heap.size w w' → FPost w ss (.returned (.tuple #[.map none, .int .i64 k])) w') := show ∀ _ _, _ → _ → _ → _ from fun k w' h h2 h3 => .inl ⟨by rw [h]; exact h2, by rw [h], h3⟩
  have HOK : Hid (∀ (w' : World) (b : Nat) (D : DataW Unit) (nn : Nat), forceE ss = 0 → w.heap.size ≤ b → w'.ownsMap Tryz.prog 3 ntR b nn D → nn ≤ 60 → NtRel D (forceL ss) → Below w.heap.size w w' → FPost w ss (.returned (.tuple #[.map (some b), .int .i64 0])) w') := show ∀ _ _ _ _, _ → _ → _ → _ → _ → _ → _ from fun w' b D nn h1 h2 h3 h6 h4 h5 => .inr ⟨h1, b, D, nn, rfl, h2, h3, h6, h4, h5⟩
  by_cases h60 : 60 < ss.length
  · have HE : Hid (forceE ss = 3) := show _ = _ from if_pos h60
    have z60 : (60 : Int) < (ss.length : Int) := by omega
    go_enter Tryz.func117, Tryz.ntmps117
    go_wp2_with fail
    go_ret2
    exact HBAD.out 3 _ HE.out (by omega) (Below.refl _ _)
  · have HE : Hid (forceE ss = (forceR ss []).1 ∧ forceL ss = (forceR ss []).2) := show _ ∧ _ from ⟨if_neg h60, if_neg h60⟩
    have z60 : ¬ (60 : Int) < (ss.length : Int) := by omega
    have hl60 : ss.length ≤ 60 := by omega
    clear h60
    generalize forceE ss = FE at *
    generalize forceL ss = FL at *
    go_enter Tryz.func117, Tryz.ntmps117
    go_wp2_with fail
    have hm0 : (w.alloc (.map #[] 0)).ownsMap Tryz.prog 3 ntR w.heap.size 0 (.map [] : DataW Unit) := World.ownsMap_made _ _ _ _
    have hB0 : Below w.heap.size w (w.alloc (.map #[] 0)) := balloc (Below.refl _ _) _
    generalize w.alloc (.map #[] 0) = W1 at *
    go_loopw [17] (fun i wr => ∃ (k : Nat) (D : DataW Unit) (L : List NT), k ≤ ss.length ∧ i = .int .i64 k ∧ Hid (wr.ownsMap Tryz.prog 3 ntR w.heap.size k D) ∧ Hid (NtRel D L) ∧ Hid (forceR ss [] = forceR (ss.drop k) L) ∧ Below w.heap.size w wr) (fun i _ => ss.length - (intOf i).toNat)
    case atStart => exact ⟨0, .map [], [], Nat.zero_le _, rfl, hm0, NtRel.empty, show _ = _ from rfl, hB0⟩
    case round =>
      clear hm0 hB0
      obtain ⟨k, D, L, hk, rfl, HM, HR, HF, hB⟩ := hrel
      by_cases hlt : k < ss.length
      · obtain ⟨a', c', hac, h0 | ⟨b, off, rfl, hb, hc⟩⟩ := HV.out.below hB
        · omega
        simp only [Value.slice.injEq] at hac
        obtain ⟨rfl, _, rfl⟩ := hac
        have hck := hc k (by omega)
        dsimp only at hck
        have hs0 := HSZ.out ss[k] (List.getElem_mem hlt)
        have HDR : Hid (ss.drop k = ss[k] :: ss.drop (k + 1)) := show _ = _ from List.drop_eq_getElem_cons hlt
        rw [List.getElem?_eq_getElem hlt, Option.getD_some] at hck
        generalize ss[k] = s at *
        have HP := Lib.hid (fun W => parse_any s hs0 W)
        unfold ParseEnd ntV ntc at HP
        have HFC := Lib.hid (forceR_cons s (ss.drop (k + 1)) L)
        have HOKN : Hid (parseE s = 0 → 1 ≤ (parseN s).n ∧ (parseN s).n ≤ 9999 ∧ okN (parseN s) = true) := show _ → _ ∧ _ from fun h => by
          obtain ⟨x, _, hx, hok⟩ := parse_zero h
          rw [hx]; exact ⟨hok.n0, hok.n1, okN_of hok⟩
        have i1 : (0 : Int) ≤ (k : Int) := by omega
        have i2 : (k : Int) < (ss.length : Int) := by omega
        clear hc hs0
        generalize parseE s = E at *
        generalize parseN s = x at *
        go_wp2_with fail
        refine (HP.out _).mono ?_
        rintro e w2 ⟨rfl, hb2⟩
        have HM2 := Lib.hid (owns_below HM.out hb2)
        have hB2 := below_trans hB hb2
        clear hck HP HM
        by_cases hE : E = 0
        · subst hE
          obtain ⟨n0, n1, hok⟩ := HOKN.out rfl
          have HOKX := Lib.hid hok
          clear hok
          have HX2 := cellsNew w2 #[.int .i64 x.n, .bool x.c, .int .i64 x.f, .int .i64 x.u, .int .i64 x.xl, .int .i64 x.xh, .int .i64 x.yl, .int .i64 x.yh] 33
          have hB3 : Below w.heap.size w (w2.alloc (.cells #[.int .i64 x.n, .bool x.c, .int .i64 x.f, .int .i64 x.u, .int .i64 x.xl, .int .i64 x.xh, .int .i64 x.yl, .int .i64 x.yh] 33)) := balloc hB2 _
          have hM3 := HM2.out.alloc (.cells #[.int .i64 x.n, .bool x.c, .int .i64 x.f, .int .i64 x.u, .int .i64 x.xl, .int .i64 x.xh, .int .i64 x.yl, .int .i64 x.yh] 33)
          have HFC2 : Hid (forceR ss [] = if x.c = true then (if (L.any fun y => y.n == x.n) then forceR (ss.drop (k + 1)) (dropN x.n L) else (4, [])) else forceR (ss.drop (k + 1)) (putN x L)) := show _ = _ from by rw [HF.out, HDR.out, HFC.out, if_neg (by simp)]
          have HHS : Hid (Maps.has D (kI x.n) = L.any fun y => y.n == x.n) := show _ = _ from HR.out.hs x.n
          have hkey : keyOf Tryz.prog 3 (.int .i64 x.n) = some (kI x.n) := keyOf_int_mk Tryz.underlying3 (WalkArith.wf_i64 (by omega))
          clear HF HFC HDR HOKN HM2
          obtain ⟨xn, xc, xf, xu, xxl, xxh, xyl, xyh⟩ := x
          simp only at HX2 hB3 hM3 HFC2 HHS hkey n0 n1
          have HRP := Lib.hid (HR.out.put ⟨xn, xc, xf, xu, xxl, xxh, xyl, xyh⟩)
          have HRD := Lib.hid (HR.out.del xn)
          simp only at HRP
          have hW3lt := HX2.lt
          have HB3 := Lib.hid hB3
          have HM3 := Lib.hid hM3
          have hB2s := hB2.size
          clear hB3
          obtain ⟨c0, c1, c2, c3, c4, c5, c6, c7⟩ := cells8 HX2
          cases xc with
          | false =>
            go_wp2_with (first | (at_lookup; refine wpList_lookup_nt _ rfl _ _ rfl w.heap.size k D rfl hM3 _ (kI xn) rfl hkey ?_; intro y) | (at_mapUpdate; refine wpList_mapUpdate_own _ rfl _ _ _ 188 rfl 3 33 lawI3 Tryz.underlying188 ntR w.heap.size k D rfl (hM3.alloc _) (by unfold maxLen; omega) _ _ _ rfl rfl hkey _ [] (ntR_mk ⟨xn, false, xf, xu, xxl, xxh, xyl, xyh⟩ HOKX.out) ?_; intro w5 hown5 hgrow5) | fail)
            go_roundw
            case rel => exact ⟨k + 1, _, _, by omega, by go_num, hown5, HRP.out, by show _ = _; rw [HFC2.out, if_neg (by simp)], (balloc HB3.out _).grown hgrow5 (balloc HB3.out _).size (fun j e => by cases e; exact Nat.le_refl _)⟩
            case measure => simp [intOf]; omega
          | true =>
            cases hhas : Maps.has D (kI xn) with
            | false =>
              have HE4 : Hid (FE = 4) := show _ = _ from by rw [HE.out.1, HFC2.out, if_pos rfl, if_neg (by rw [← HHS.out, hhas]; simp)]
              go_wp2_with (first | (at_lookup; refine wpList_lookup_nt _ rfl _ _ rfl w.heap.size k D rfl hM3 _ (kI xn) rfl hkey ?_; intro y) | fail)
              go_ret2
              exact HBAD.out 4 _ HE4.out (by omega) (balloc HB3.out _)
            | true =>
              have HF4 : Hid (forceR ss [] = forceR (ss.drop (k + 1)) (dropN xn L)) := show _ = _ from by rw [HFC2.out, if_pos rfl, if_pos (by rw [← HHS.out, hhas])]
              go_wp2_with (first | (at_lookup; refine wpList_lookup_nt _ rfl _ _ rfl w.heap.size k D rfl hM3 _ (kI xn) rfl hkey ?_; intro y) | (at_delete; refine wpList_delete_own _ rfl _ _ 188 3 rfl 33 lawI3 Tryz.underlying188 ntR w.heap.size k D rfl (hM3.alloc _) _ _ rfl hkey ?_; intro w5 hown5 hturn5) | fail)
              go_roundw
              case rel => exact ⟨k + 1, _, _, by omega, by go_num, hown5.mono (by omega), HRD.out, HF4.out, (balloc HB3.out _).grown hturn5.grown (balloc HB3.out _).size (fun j e => by cases e; exact Nat.le_refl _)⟩
              case measure => simp [intOf]; omega
        · have HE2 : Hid (FE = E) := show _ = _ from by rw [HE.out.1, HF.out, HDR.out, HFC.out, if_pos hE]
          have hE' : (E != 0) = true := by simpa using hE
          have HN := Lib.hid hE
          clear hE
          go_wp2_with fail
          go_ret2
          exact HBAD.out E _ HE2.out HN.out (balloc hB2 _)
      · obtain rfl : k = ss.length := by omega
        have HF2 : Hid (FE = 0 ∧ FL = L) := show _ ∧ _ from by
          have h := HF.out
          rw [List.drop_length] at h
          rw [HE.out.1, HE.out.2, h]
          exact ⟨rfl, rfl⟩
        go_wp2_with fail
        go_ret2
        exact HOK.out _ _ D _ HF2.out.1 (Nat.le_refl _) HM.out hl60 (by rw [HF2.out.2]; exact HR.out) hB
end Go.Proofs.YtmglbegbijofkaaGreatDoor
