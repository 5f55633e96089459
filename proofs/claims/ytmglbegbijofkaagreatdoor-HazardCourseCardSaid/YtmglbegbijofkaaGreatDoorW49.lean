import Derived.Test.YtmglbegbijofkaaGreatDoorW48
set_option linter.unusedVariables false
set_option linter.unusedSimpArgs false
namespace Go.Proofs.YtmglbegbijofkaaGreatDoor
open Go.RowKit Go.Maps Go.Sort Go.Shelf

theorem cells8 {W : World} {b : Nat} {t : TypeId} {a0 a1 a2 a3 a4 a5 a6 a7 : Value} (h : cellsAt W b t #[a0, a1, a2, a3, a4, a5, a6, a7]) : W.cell? ⟨b, 0, none⟩ = some a0 ∧ W.cell? ⟨b, 1, none⟩ = some a1 ∧ W.cell? ⟨b, 2, none⟩ = some a2 ∧ W.cell? ⟨b, 3, none⟩ = some a3 ∧ W.cell? ⟨b, 4, none⟩ = some a4 ∧ W.cell? ⟨b, 5, none⟩ = some a5 ∧ W.cell? ⟨b, 6, none⟩ = some a6 ∧ W.cell? ⟨b, 7, none⟩ = some a7 :=
  ⟨h.cell 0, h.cell 1, h.cell 2, h.cell 3, h.cell 4, h.cell 5, h.cell 6, h.cell 7⟩
theorem RdAt.setNew {W : World} {Br : Nat} {ws : List (List UInt8)} (h : RdAt W Br ws) {p : Addr} (hp : Br < p.block) (v : Value) : RdAt (W.setCell p v) Br ws := by
  obtain ⟨a, c, hc, hf, hlc, hor⟩ := h
  have hcell : ∀ b o, b ≤ Br → (W.setCell p v).cell? ⟨b, o, none⟩ = W.cell? ⟨b, o, none⟩ := fun b o hb => by
    refine World.cell?_of_block (w := W) (Below.heap_setCell _ _ _ b (by omega))
  refine ⟨a, c, (hcell Br 0 (Nat.le_refl _)).trans hc, by rw [World.frozen?_setCell]; exact hf, hlc, ?_⟩
  rcases hor with h0 | ⟨b, off, ha, hbb, hcells⟩
  · exact .inl h0
  · exact .inr ⟨b, off, ha, hbb, fun i hi => (hcell b _ (by omega)).trans (hcells i hi)⟩
theorem grown_setNew {W w : World} {r : Option Nat} (h : W.grownBy w r) {p : Addr} (hp : W.heap.size ≤ p.block) (v : Value) : W.grownBy (w.setCell p v) r :=
  ⟨h.os, h.tape, h.output, by simpa [World.setCell] using h.size, fun k hk hn => (Below.heap_setCell _ _ _ k (by omega)).trans (h.block k hk hn)⟩
def MustEnd (Br : Nat) (o : Option (List (List UInt8))) (e : Ending) (w' : World) : Prop :=
  match o with
  | none => e = .panicked (errP 6)
  | some r => e = .returned (.tuple #[]) ∧ RdAt w' Br r
theorem must_any (Br : Nat) (y : List UInt8) (ws : List (List UInt8)) (W : World) (h : RdAt W Br ws) : Calls Tryz.prog 138 #[.pointer (some ⟨Br, 0, none⟩), encStr y] W fun e w' => MustEnd Br (mustV y ws) e w' ∧ W.grownBy w' (some Br) := by
  cases ws with
  | nil => exact (must_nil Br y W h).mono fun e w' ⟨he, hg⟩ => ⟨he, hg⟩
  | cons x ws =>
    by_cases hxy : x = y
    · subst hxy
      have e : mustV x (x :: ws) = some ws := by simp [mustV]
      rw [e]
      exact (must_ok Br x ws W h).mono fun e w' ⟨he, hr, hg⟩ => ⟨⟨he, hr⟩, hg⟩
    · have e : mustV y (x :: ws) = none := by simp [mustV, hxy]
      rw [e]
      exact (must_bad Br x y ws W h hxy).mono fun e w' ⟨he, hg⟩ => ⟨he, hg⟩
def SpanEnd (Br : Nat) (o : Option ((Int × Int) × List (List UInt8))) (e : Ending) (w' : World) : Prop :=
  match o with
  | none => e = .panicked (errP 6)
  | some ((a, b), r) => e = .returned (.agg #[.int .i64 a, .int .i64 b]) ∧ RdAt w' Br r
set_option maxRecDepth 100000 in
set_option maxHeartbeats 800000 in
theorem span_any (Br : Nat) (y : List UInt8) (ws : List (List UInt8)) (W : World) (h : RdAt W Br ws) (hs : ∀ x ∈ ws, x.length ≤ 8796093022000) : Calls Tryz.prog 140 #[.pointer (some ⟨Br, 0, none⟩), encStr y] W fun e w' => SpanEnd Br (spanV y ws) e w' ∧ W.grownBy w' (some Br) := by
  have hlt := h.lt
  have HY : Hid (∀ W' : World, RdAt W' Br ws → Calls Tryz.prog 138 #[.pointer (some ⟨Br, 0, none⟩), encStr y] W' fun e w' => MustEnd Br (mustV y ws) e w' ∧ W'.grownBy w' (some Br)) := show ∀ _, _ from fun W' h => must_any Br y ws W' h
  have HR := Lib.hid (h.below (Below.refl _ _ |>.alloc (Nat.le_refl _) (.cells #[.int .i64 0, .int .i64 0] 23)))
  have HX := Lib.hid (cellsNew W #[.int .i64 0, .int .i64 0] 23)
  have HG : Hid (W.grownBy (W.alloc (.cells #[.int .i64 0, .int .i64 0] 23)) (some Br)) := World.grownBy_alloc _ _ _
  have hxb : W.heap.size ≤ W.heap.size := Nat.le_refl _
  unfold encStr at HY ⊢
  clear h
  go_enter Tryz.func140, Tryz.ntmps140
  go_wp2_with fail
  generalize W.alloc (.cells #[.int .i64 0, .int .i64 0] 23) = W0 at *
  refine (HY.out _ HR.out).mono ?_
  rintro e w1 ⟨hm, hg⟩
  cases h1 : mustV y ws with
  | none =>
    rw [h1] at hm
    unfold MustEnd at hm
    simp only at hm
    subst hm
    have HF : Hid (spanV y ws = none) := show _ = _ from by simp only [spanV, h1]
    have HG2 := Lib.hid (HG.out.trans hg)
    clear h1
    go_wp2_with fail
    exact ⟨rfl, by rw [HF.out]; rfl, HG2.out⟩
  | some r1 =>
    rw [h1] at hm
    unfold MustEnd at hm
    simp only at hm
    obtain ⟨rfl, hr⟩ := hm
    have hs : ∀ x ∈ r1, x.length ≤ 8796093022000 := fun x hx => hs x (by rw [mustV_some.1 h1]; simp [hx])
    have H1 := Lib.hid h1
    have HX := Lib.hid (HX.out.grown hg (by omega))
    have HG := Lib.hid (HG.out.trans hg)
    have HR := Lib.hid hr
    clear hg hr h1
    go_wp2_with fail
    refine (signed_any Br r1 _ HR.out hs).mono ?_
    rintro e w2 ⟨hm, hg⟩
    cases h2 : signedV r1 with
    | none =>
      rw [h2] at hm
      unfold RdEnd at hm
      simp only at hm
      subst hm
      have HF : Hid (spanV y ws = none) := show _ = _ from by simp only [spanV, H1.out, h2]
      have HG2 := Lib.hid (HG.out.trans hg)
      clear h2
      go_wp2_with fail
      exact ⟨rfl, by rw [HF.out]; rfl, HG2.out⟩
    | some q =>
      obtain ⟨a, r2⟩ := q
      rw [h2] at hm
      unfold RdEnd at hm
      simp only at hm
      obtain ⟨rfl, hr⟩ := hm
      have hs : ∀ x ∈ r2, x.length ≤ 8796093022000 := fun x hx => hs x (by obtain ⟨_, e, _⟩ := signedV_some.1 h2; rw [e]; simp [hx])
      have H2 := Lib.hid h2
      have HX := Lib.hid (HX.out.grown hg (by omega))
      have HG := Lib.hid (HG.out.trans hg)
      have HR := Lib.hid hr
      clear hg hr h2
      go_wp2_with fail
      refine (signed_any Br r2 _ HR.out hs).mono ?_
      rintro e w3 ⟨hm, hg⟩
      cases h3 : signedV r2 with
      | none =>
        rw [h3] at hm
        unfold RdEnd at hm
        simp only at hm
        subst hm
        have HF : Hid (spanV y ws = none) := show _ = _ from by simp only [spanV, H1.out, H2.out, h3]
        have HG2 := Lib.hid (HG.out.trans hg)
        clear h3
        go_wp2_with fail
        exact ⟨rfl, by rw [HF.out]; rfl, HG2.out⟩
      | some q =>
        obtain ⟨b, r3⟩ := q
        rw [h3] at hm
        unfold RdEnd at hm
        simp only at hm
        obtain ⟨rfl, hr⟩ := hm
        have HF : Hid (spanV y ws = some ((a, b), r3)) := show _ = _ from by simp only [spanV, H1.out, H2.out, h3]
        have hx := HX.out.grown hg (by omega)
        have HE := Lib.hid (And.intro ((hr.setNew (p := ⟨W.heap.size, 0, none⟩) hlt (.int .i64 a)).setNew (p := ⟨W.heap.size, 1, none⟩) hlt (.int .i64 b)) (grown_setNew (grown_setNew (HG.out.trans hg) (p := ⟨W.heap.size, 0, none⟩) hxb (.int .i64 a)) (p := ⟨W.heap.size, 1, none⟩) hxb (.int .i64 b)))
        obtain ⟨c0, c1⟩ := cells2 hx
        have fz := hx.frozen
        have HX2 := Lib.hid hx
        clear hg hr h3 HX HG HR hx
        go_wp2_with fail
        have hx2 := HX2.out
        have hxF := (hx2.set 0 (.int .i64 a)).set 1 (.int .i64 b)
        simp only [List.setIfInBounds_toArray, List.set_cons_zero, List.set_cons_succ] at hxF
        obtain ⟨e0, e1⟩ := cells2 hxF
        refine bodyPost_ret (v := .agg #[.int .i64 a, .int .i64 b]) (by simp [results, Tryz.results140, go_sem, e0, e1]) rfl ?_
        · rw [HF.out]
          exact ⟨⟨rfl, HE.out.1⟩, HE.out.2⟩
set_option maxHeartbeats 400000 in
theorem km_any (a b : Int) (w : World) :
    Calls Tryz.prog 141 #[.agg #[.int .i64 a, .int .i64 b]] w fun e w' => e = .returned (.bool (kmB a b)) ∧ Below w.heap.size w w' := by
  go_enter Tryz.func141, Tryz.ntmps141
  go_wp2_with (go_at_call 64; refine (out_any _ _ _ _).mono ?_; rintro e w' ⟨rfl, rfl⟩)
  all_goals (go_ret; exact ⟨ret_bool (by simp [kmB, *]), (by repeat (first | exact Below.refl _ _ | assumption | refine balloc ?_ _ | refine below_trans ?_ (by assumption) | refine Below.drew ?_ | refine below_drewN ?_ _ | refine Below.setCell ?_ (by simp <;> omega) _))⟩)
def ntV (x : NT) : Array Value := ntc x.n x.c x.f x.u x.xl x.xh x.yl x.yh
def NotEnd (o : Option NT) (e : Ending) : Prop := e = match o with | none => .panicked (errP 6) | some x => if rangeB x then .panicked (errP 7) else .returned (.agg (ntV x))
set_option maxRecDepth 100000 in
set_option maxHeartbeats 4000000 in
theorem noticeR_any (Br : Nat) (ws : List (List UInt8)) (W : World) (h : RdAt W Br ws) (hs : ∀ x ∈ ws, x.length ≤ 8796093022000) : Calls Tryz.prog 76 #[.pointer (some ⟨Br, 0, none⟩)] W fun e w' => NotEnd (formV ws) e ∧ W.grownBy w' (some Br) := by
  have hlt := h.lt
  obtain ⟨a, c, hc, hf, hlc, hor⟩ := id h
  clear hor
  have HXB0 : Hid (W.heap.size ≤ W.heap.size) := show _ ≤ _ from Nat.le_refl _
  by_cases h2 : ws.length = 2
  · match ws, h2 with
    | [p, q], _ =>
      have HL : Hid (formV [p, q] = if p = wCANCEL then (match numV q with | some n => some ⟨n, true, 0, 0, 0, 0, 0, 0⟩ | none => none) else none) := show _ = _ from rfl
      have HR0 := Lib.hid (h.below (Below.refl _ _ |>.alloc (Nat.le_refl _) (.cells #[.int .i64 0, .bool true, .int .i64 0, .int .i64 0, .int .i64 0, .int .i64 0, .int .i64 0, .int .i64 0] 33)))
      have HX0 := Lib.hid (cellsNew W #[.int .i64 0, .bool true, .int .i64 0, .int .i64 0, .int .i64 0, .int .i64 0, .int .i64 0, .int .i64 0] 33)
      have HG0 : Hid (W.grownBy (W.alloc (.cells #[.int .i64 0, .bool true, .int .i64 0, .int .i64 0, .int .i64 0, .int .i64 0, .int .i64 0, .int .i64 0] 33)) (some Br)) := World.grownBy_alloc _ _ _
      simp only [List.length_cons, List.length_nil] at hc
      clear h
      go_enter Tryz.func76, Tryz.ntmps76
      go_wp2_with fail
      generalize W.alloc (.cells #[.int .i64 0, .bool true, .int .i64 0, .int .i64 0, .int .i64 0, .int .i64 0, .int .i64 0, .int .i64 0] 33) = W1 at *
      have HX := HX0
      have HR := HR0
      have HG := HG0
      have hbx := hlt
      obtain ⟨xb, hxx⟩ : ∃ xb, W.heap.size = xb := ⟨_, rfl⟩
      rw [hxx] at hbx HX
      have HXB : Hid (W.heap.size ≤ xb) := show _ ≤ _ from by omega
      rw [hxx]
      clear hxx hc hf hlc hlt HX0 HR0 HG0 HXB0
      refine (must_any Br wCANCEL [p, q] _ HR.out).mono ?_
      rintro e w1 ⟨hm, hg⟩
      by_cases hp : p = wCANCEL
      · have hmv : mustV wCANCEL [p, q] = some [q] := by simp [mustV, hp]
        have HL := Lib.hid (HL.out.trans (if_pos hp))
        rw [hmv] at hm
        unfold MustEnd at hm
        simp only at hm
        obtain ⟨rfl, hr⟩ := hm
        have HX := Lib.hid (HX.out.grown hg (by omega))
        have HG := Lib.hid (HG.out.trans hg)
        have HR := Lib.hid hr
        clear hg hr hmv hp
        go_wp2_with fail
        refine (number_any Br [q] _ HR.out (fun x hx => hs x (by simp at hx; simp [hx]))).mono ?_
        rintro e w2 ⟨hm, hg⟩
        cases hv : numV q with
        | none =>
          have hnv : numberV [q] = none := by simp [numberV, hv]
          rw [hnv] at hm
          unfold RdEnd at hm
          simp only at hm
          subst hm
          have HF : Hid (formV [p, q] = none) := show _ = _ from by rw [HL.out, hv]
          have HG2 := Lib.hid (HG.out.trans hg)
          clear hnv hv
          go_wp2_with fail
          exact ⟨rfl, by rw [HF.out]; rfl, HG2.out⟩
        | some vn =>
          have hnv : numberV [q] = some (vn, []) := by simp [numberV, hv]
          rw [hnv] at hm
          unfold RdEnd at hm
          simp only at hm
          obtain ⟨rfl, hr⟩ := hm
          have HL2 : Hid (formV [p, q] = some ⟨vn, true, 0, 0, 0, 0, 0, 0⟩) := show _ = _ from by rw [HL.out, hv]
          have hx := HX.out.grown hg (show xb ≠ Br by omega)
          have HX2 := Lib.hid (hx.set 0 (.int .i64 vn))
          have HG := Lib.hid (grown_setNew (HG.out.trans hg) (p := ⟨xb, 0, none⟩) HXB.out (.int .i64 vn))
          have HR := Lib.hid (hr.setNew (p := ⟨xb, 0, none⟩) (show Br < xb by omega) (.int .i64 vn))
          obtain ⟨c0, c1, c2, c3, c4, c5, c6, c7⟩ := cells8 hx
          have fz := hx.frozen
          simp only [List.setIfInBounds_toArray, List.set_cons_zero, List.set_cons_succ] at HX2
          clear hg hr HX hx hnv hv
          have HX := HX2
          clear HX2
          go_upto_region 13 with fail
          clear c0 c1 c2 c3 c4 c5 c6 c7 fz
          generalize w2.setCell ⟨xb, 0, none⟩ (.int .i64 vn) = wz at *
          -- the ranges of what was read (⟨vn, true, 0, 0, 0, 0, 0, 0⟩: its fields, as an NT; vn .. 0: n f u xl xh yl yh): no word is left
          obtain ⟨ra, rc, hrc, hrf, hrl, _⟩ := id HR.out
          have hgB : Hid (∀ w', Below wz.heap.size wz w' → W.grownBy w' (some Br)) := show ∀ _, _ from fun w' hb => grown_after HR.out.lt HG.out hb
          have hrlt : Br < wz.heap.size := HR.out.lt
          have hxl : xb < wz.heap.size := HX.out.lt
          simp only [List.length_nil] at hrc
          obtain ⟨c0, c1, c2, c3, c4, c5, c6, c7⟩ := cells8 HX.out
          have fz := HX.out.frozen
          have HXZ := HX
          clear HR HG HX hrl
          cases o1 : outB vn 1 9999 with
          | true =>
            have HF : Hid (rangeB ⟨vn, true, 0, 0, 0, 0, 0, 0⟩ = true) := show _ = _ from by unfold rangeB; simp [o1]
            go_wp2_with (first | (go_at_call 64; refine (out_any _ _ _ _).mono ?_; rintro e w' ⟨rfl, rfl⟩) | (go_at_call 141; refine (km_any _ _ _).mono ?_; rintro e w' ⟨rfl, hb⟩; obtain ⟨hc, hf⟩ := bcell hb; have hz := hb.size; (try simp at hz)))
            all_goals (exact ⟨rfl, by rw [HL2.out]; simp only [NotEnd, HF.out, if_true], hgB.out _ (by repeat (first | exact Below.refl _ _ | assumption | refine balloc ?_ _ | refine below_trans ?_ (by assumption) | refine Below.drew ?_ | refine below_drewN ?_ _ | refine Below.setCell ?_ (by simp <;> omega) _))⟩)
          | false =>
            cases o2 : outB 0 0 100000 with
            | true =>
              have HF : Hid (rangeB ⟨vn, true, 0, 0, 0, 0, 0, 0⟩ = true) := show _ = _ from by unfold rangeB; simp [o2]
              go_wp2_with (first | (go_at_call 64; refine (out_any _ _ _ _).mono ?_; rintro e w' ⟨rfl, rfl⟩) | (go_at_call 141; refine (km_any _ _ _).mono ?_; rintro e w' ⟨rfl, hb⟩; obtain ⟨hc, hf⟩ := bcell hb; have hz := hb.size; (try simp at hz)))
              all_goals (exact ⟨rfl, by rw [HL2.out]; simp only [NotEnd, HF.out, if_true], hgB.out _ (by repeat (first | exact Below.refl _ _ | assumption | refine balloc ?_ _ | refine below_trans ?_ (by assumption) | refine Below.drew ?_ | refine below_drewN ?_ _ | refine Below.setCell ?_ (by simp <;> omega) _))⟩)
            | false =>
              cases o3 : outB 0 0 0 with
              | true =>
                have HF : Hid (rangeB ⟨vn, true, 0, 0, 0, 0, 0, 0⟩ = true) := show _ = _ from by unfold rangeB; simp [o3]
                go_wp2_with (first | (go_at_call 64; refine (out_any _ _ _ _).mono ?_; rintro e w' ⟨rfl, rfl⟩) | (go_at_call 141; refine (km_any _ _ _).mono ?_; rintro e w' ⟨rfl, hb⟩; obtain ⟨hc, hf⟩ := bcell hb; have hz := hb.size; (try simp at hz)))
                all_goals (exact ⟨rfl, by rw [HL2.out]; simp only [NotEnd, HF.out, if_true], hgB.out _ (by repeat (first | exact Below.refl _ _ | assumption | refine balloc ?_ _ | refine below_trans ?_ (by assumption) | refine Below.drew ?_ | refine below_drewN ?_ _ | refine Below.setCell ?_ (by simp <;> omega) _))⟩)
              | false =>
                cases o4 : kmB 0 0 with
                | true =>
                  have HF : Hid (rangeB ⟨vn, true, 0, 0, 0, 0, 0, 0⟩ = true) := show _ = _ from by unfold rangeB; simp [o4]
                  go_wp2_with (first | (go_at_call 64; refine (out_any _ _ _ _).mono ?_; rintro e w' ⟨rfl, rfl⟩) | (go_at_call 141; refine (km_any _ _ _).mono ?_; rintro e w' ⟨rfl, hb⟩; obtain ⟨hc, hf⟩ := bcell hb; have hz := hb.size; (try simp at hz)))
                  all_goals (exact ⟨rfl, by rw [HL2.out]; simp only [NotEnd, HF.out, if_true], hgB.out _ (by repeat (first | exact Below.refl _ _ | assumption | refine balloc ?_ _ | refine below_trans ?_ (by assumption) | refine Below.drew ?_ | refine below_drewN ?_ _ | refine Below.setCell ?_ (by simp <;> omega) _))⟩)
                | false =>
                  cases o5 : kmB 0 0 with
                  | true =>
                    have HF : Hid (rangeB ⟨vn, true, 0, 0, 0, 0, 0, 0⟩ = true) := show _ = _ from by unfold rangeB; simp [o5]
                    go_wp2_with (first | (go_at_call 64; refine (out_any _ _ _ _).mono ?_; rintro e w' ⟨rfl, rfl⟩) | (go_at_call 141; refine (km_any _ _ _).mono ?_; rintro e w' ⟨rfl, hb⟩; obtain ⟨hc, hf⟩ := bcell hb; have hz := hb.size; (try simp at hz)))
                    all_goals (exact ⟨rfl, by rw [HL2.out]; simp only [NotEnd, HF.out, if_true], hgB.out _ (by repeat (first | exact Below.refl _ _ | assumption | refine balloc ?_ _ | refine below_trans ?_ (by assumption) | refine Below.drew ?_ | refine below_drewN ?_ _ | refine Below.setCell ?_ (by simp <;> omega) _))⟩)
                  | false =>
                    have HF : Hid (rangeB ⟨vn, true, 0, 0, 0, 0, 0, 0⟩ = false) := show _ = _ from by unfold rangeB; simp [o1, o2, o3, o4, o5]
                    have hz0 : Hid (Below wz.heap.size wz wz) := show Below _ _ _ from Below.refl _ _
                    go_upto_region 18 with (first | (go_at_call 64; refine (out_any _ _ _ _).mono ?_; rintro e w' ⟨rfl, rfl⟩) | (go_at_call 141; refine (km_any _ _ _).mono ?_; rintro e w' ⟨rfl, hb⟩; have hz0 := Lib.hid (below_trans hz0.out hb); have HXZ := Lib.hid (HXZ.out.below hb); clear c0 c1 c2 c3 c4 c5 c6 c7 fz; obtain ⟨c0, c1, c2, c3, c4, c5, c6, c7⟩ := cells8 HXZ.out; have fz := HXZ.out.frozen; have hxl : xb < w'.heap.size := HXZ.out.lt))
                    have hgz := Lib.hid (hgB.out _ hz0.out)
                    go_wp2_with fail
                    have hxF := (((((((HXZ.out.set 0 (.int .i64 vn)).set 1 (.bool true)).set 2 (.int .i64 0)).set 3 (.int .i64 0)).set 4 (.int .i64 0)).set 5 (.int .i64 0)).set 6 (.int .i64 0)).set 7 (.int .i64 0)
                    simp only [List.setIfInBounds_toArray, List.set_cons_zero, List.set_cons_succ] at hxF
                    obtain ⟨e0, e1, e2, e3, e4, e5, e6, e7⟩ := cells8 hxF
                    have hgF := grown_setNew (grown_setNew (grown_setNew (grown_setNew (grown_setNew (grown_setNew (grown_setNew (grown_setNew hgz.out (p := ⟨xb, 0, none⟩) HXB.out (.int .i64 vn)) (p := ⟨xb, 1, none⟩) HXB.out (.bool true)) (p := ⟨xb, 2, none⟩) HXB.out (.int .i64 0)) (p := ⟨xb, 3, none⟩) HXB.out (.int .i64 0)) (p := ⟨xb, 4, none⟩) HXB.out (.int .i64 0)) (p := ⟨xb, 5, none⟩) HXB.out (.int .i64 0)) (p := ⟨xb, 6, none⟩) HXB.out (.int .i64 0)) (p := ⟨xb, 7, none⟩) HXB.out (.int .i64 0)
                    refine bodyPost_ret (v := .agg (ntV ⟨vn, true, 0, 0, 0, 0, 0, 0⟩)) (by simp [results, Tryz.results76, go_sem, e0, e1, e2, e3, e4, e5, e6, e7, ntV, ntc]) rfl ⟨by rw [HL2.out]; simp only [NotEnd, HF.out]; rfl, hgF⟩
      · have hmv : mustV wCANCEL [p, q] = none := by simp [mustV, hp]
        rw [hmv] at hm
        unfold MustEnd at hm
        simp only at hm
        subst hm
        have HF : Hid (formV [p, q] = none) := show _ = _ from by rw [HL.out, if_neg hp]
        have HG2 := Lib.hid (HG.out.trans hg)
        clear hmv hp
        go_wp2_with fail
        exact ⟨rfl, by rw [HF.out]; rfl, HG2.out⟩
  · have HL : Hid (formV ws = longV ws) := show _ = _ from formV_long h2
    have hn2 : ¬ ((ws.length : Int) = 2) := by omega
    have hn2' : (((ws.length : Int)) == 2) = false := by simpa using hn2
    have HR := Lib.hid (h.below (Below.refl _ _ |>.alloc (Nat.le_refl _) (.cells zeroN 33)))
    have HX := Lib.hid (cellsNew W zeroN 33)
    have HG : Hid (W.grownBy (W.alloc (.cells zeroN 33)) (some Br)) := World.grownBy_alloc _ _ _
    have HXB := HXB0
    have hbx := hlt
    unfold zeroN ntc at HX HR HG
    clear h h2 HXB0
    go_enter Tryz.func76, Tryz.ntmps76
    go_wp2_with fail
    generalize W.alloc (.cells #[.int .i64 0, .bool false, .int .i64 0, .int .i64 0, .int .i64 0, .int .i64 0, .int .i64 0, .int .i64 0] 33) = W1 at *
    obtain ⟨xb, hxx⟩ : ∃ xb, W.heap.size = xb := ⟨_, rfl⟩
    rw [hxx] at hbx HX
    have HXB : Hid (W.heap.size ≤ xb) := show _ ≤ _ from by omega
    rw [hxx]
    clear hxx hc hf hlc hlt hn2 hn2'
    -- a word that must be wNOTICE (names 1: the step, ws: the list before, r1: after; if_true: facts so far)
    go_wp2_with fail
    (try clear c0 c1 c2 c3 c4 c5 c6 c7 fz HRW)
    refine (must_any Br wNOTICE ws _ HR.out).mono ?_
    rintro e w1 ⟨hm, hg⟩
    cases h1 : mustV wNOTICE ws with
    | none =>
      rw [h1] at hm
      (try unfold MustEnd at hm)
      simp only at hm
      subst hm
      have HF : Hid (formV ws = none) := show _ = _ from by rw [HL.out]; simp only [longV, if_true, h1]
      have HG2 := Lib.hid (HG.out.trans hg)
      clear h1
      go_wp2_with fail
      exact ⟨rfl, by rw [HF.out]; rfl, HG2.out⟩
    | some r1 =>
      rw [h1] at hm
      (try unfold MustEnd at hm)
      simp only at hm
      obtain ⟨rfl, hr⟩ := hm
      have hs : ∀ x ∈ r1, x.length ≤ 8796093022000 := fun x hx => hs x (by rw [mustV_some.1 h1]; simp [hx])
      have H1 := Lib.hid h1
      have HX := Lib.hid (HX.out.grown hg (by omega))
      have HG := Lib.hid (HG.out.trans hg)
      have HR := Lib.hid hr
      clear hg hr h1
      -- a number into the cell 0 (names: 2 step, r1 before, r2 after, H1.out facts, vn: the number's name, #7: the cells behind)
      go_wp2_with fail
      (try clear c0 c1 c2 c3 c4 c5 c6 c7 fz HRW)
      refine (number_any Br r1 _ HR.out hs).mono ?_
      rintro e w2 ⟨hm, hg⟩
      cases h2 : numberV r1 with
      | none =>
        rw [h2] at hm
        unfold RdEnd at hm
        simp only at hm
        subst hm
        have HF : Hid (formV ws = none) := show _ = _ from by rw [HL.out]; simp only [longV, H1.out, h2]
        have HG2 := Lib.hid (HG.out.trans hg)
        clear h2
        go_wp2_with fail
        exact ⟨rfl, by rw [HF.out]; rfl, HG2.out⟩
      | some q =>
        obtain ⟨vn, r2⟩ := q
        rw [h2] at hm
        unfold RdEnd at hm
        simp only at hm
        obtain ⟨rfl, hr⟩ := hm
        have hs : ∀ x ∈ r2, x.length ≤ 8796093022000 := fun x hx => hs x (by obtain ⟨_, e, _⟩ := numberV_some.1 h2; rw [e]; simp [hx])
        have H2 := Lib.hid h2
        have hx := HX.out.grown hg (show xb ≠ Br by omega)
        have HX2 := Lib.hid (hx.set 0 (.int .i64 vn))
        have HG := Lib.hid (grown_setNew (HG.out.trans hg) (p := ⟨xb, 0, none⟩) HXB.out (.int .i64 vn))
        have HR := Lib.hid (hr.setNew (p := ⟨xb, 0, none⟩) (show Br < xb by omega) (.int .i64 vn))
        obtain ⟨c0, c1, c2, c3, c4, c5, c6, c7⟩ := cells8 hx
        have fz := hx.frozen
        simp only [List.setIfInBounds_toArray, List.set_cons_zero, List.set_cons_succ] at HX2
        have HRW := Lib.hid hr
        clear hg hr h2 HX hx
        have HX := HX2
        clear HX2
        -- a word that must be wFROM (names 3: the step, r2: the list before, r3: after; H1.out, H2.out: facts so far)
        go_wp2_with fail
        (try clear c0 c1 c2 c3 c4 c5 c6 c7 fz HRW)
        refine (must_any Br wFROM r2 _ HR.out).mono ?_
        rintro e w3 ⟨hm, hg⟩
        cases h3 : mustV wFROM r2 with
        | none =>
          rw [h3] at hm
          (try unfold MustEnd at hm)
          simp only at hm
          subst hm
          have HF : Hid (formV ws = none) := show _ = _ from by rw [HL.out]; simp only [longV, H1.out, H2.out, h3]
          have HG2 := Lib.hid (HG.out.trans hg)
          clear h3
          go_wp2_with fail
          exact ⟨rfl, by rw [HF.out]; rfl, HG2.out⟩
        | some r3 =>
          rw [h3] at hm
          (try unfold MustEnd at hm)
          simp only at hm
          obtain ⟨rfl, hr⟩ := hm
          have hs : ∀ x ∈ r3, x.length ≤ 8796093022000 := fun x hx => hs x (by rw [mustV_some.1 h3]; simp [hx])
          have H3 := Lib.hid h3
          have HX := Lib.hid (HX.out.grown hg (by omega))
          have HG := Lib.hid (HG.out.trans hg)
          have HR := Lib.hid hr
          clear hg hr h3
          -- a number into the cell 2 (names: 4 step, r3 before, r4 after, H1.out, H2.out, H3.out facts, vf: the number's name, #7: the cells behind)
          go_wp2_with fail
          (try clear c0 c1 c2 c3 c4 c5 c6 c7 fz HRW)
          refine (number_any Br r3 _ HR.out hs).mono ?_
          rintro e w4 ⟨hm, hg⟩
          cases h4 : numberV r3 with
          | none =>
            rw [h4] at hm
            unfold RdEnd at hm
            simp only at hm
            subst hm
            have HF : Hid (formV ws = none) := show _ = _ from by rw [HL.out]; simp only [longV, H1.out, H2.out, H3.out, h4]
            have HG2 := Lib.hid (HG.out.trans hg)
            clear h4
            go_wp2_with fail
            exact ⟨rfl, by rw [HF.out]; rfl, HG2.out⟩
          | some q =>
            obtain ⟨vf, r4⟩ := q
            rw [h4] at hm
            unfold RdEnd at hm
            simp only at hm
            obtain ⟨rfl, hr⟩ := hm
            have hs : ∀ x ∈ r4, x.length ≤ 8796093022000 := fun x hx => hs x (by obtain ⟨_, e, _⟩ := numberV_some.1 h4; rw [e]; simp [hx])
            have H4 := Lib.hid h4
            have hx := HX.out.grown hg (show xb ≠ Br by omega)
            have HX2 := Lib.hid (hx.set 2 (.int .i64 vf))
            have HG := Lib.hid (grown_setNew (HG.out.trans hg) (p := ⟨xb, 2, none⟩) HXB.out (.int .i64 vf))
            have HR := Lib.hid (hr.setNew (p := ⟨xb, 2, none⟩) (show Br < xb by omega) (.int .i64 vf))
            obtain ⟨c0, c1, c2, c3, c4, c5, c6, c7⟩ := cells8 hx
            have fz := hx.frozen
            simp only [List.setIfInBounds_toArray, List.set_cons_zero, List.set_cons_succ] at HX2
            have HRW := Lib.hid hr
            clear hg hr h4 HX hx
            have HX := HX2
            clear HX2
            -- a word that must be wUNTIL (names 5: the step, r4: the list before, r5: after; H1.out, H2.out, H3.out, H4.out: facts so far)
            go_wp2_with fail
            (try clear c0 c1 c2 c3 c4 c5 c6 c7 fz HRW)
            refine (must_any Br wUNTIL r4 _ HR.out).mono ?_
            rintro e w5 ⟨hm, hg⟩
            cases h5 : mustV wUNTIL r4 with
            | none =>
              rw [h5] at hm
              (try unfold MustEnd at hm)
              simp only at hm
              subst hm
              have HF : Hid (formV ws = none) := show _ = _ from by rw [HL.out]; simp only [longV, H1.out, H2.out, H3.out, H4.out, h5]
              have HG2 := Lib.hid (HG.out.trans hg)
              clear h5
              go_wp2_with fail
              exact ⟨rfl, by rw [HF.out]; rfl, HG2.out⟩
            | some r5 =>
              rw [h5] at hm
              (try unfold MustEnd at hm)
              simp only at hm
              obtain ⟨rfl, hr⟩ := hm
              have hs : ∀ x ∈ r5, x.length ≤ 8796093022000 := fun x hx => hs x (by rw [mustV_some.1 h5]; simp [hx])
              have H5 := Lib.hid h5
              have HX := Lib.hid (HX.out.grown hg (by omega))
              have HG := Lib.hid (HG.out.trans hg)
              have HR := Lib.hid hr
              clear hg hr h5
              -- a number into the cell 3 (names: 6 step, r5 before, r6 after, H1.out, H2.out, H3.out, H4.out, H5.out facts, vu: the number's name, #7: the cells behind)
              go_wp2_with fail
              (try clear c0 c1 c2 c3 c4 c5 c6 c7 fz HRW)
              refine (number_any Br r5 _ HR.out hs).mono ?_
              rintro e w6 ⟨hm, hg⟩
              cases h6 : numberV r5 with
              | none =>
                rw [h6] at hm
                unfold RdEnd at hm
                simp only at hm
                subst hm
                have HF : Hid (formV ws = none) := show _ = _ from by rw [HL.out]; simp only [longV, H1.out, H2.out, H3.out, H4.out, H5.out, h6]
                have HG2 := Lib.hid (HG.out.trans hg)
                clear h6
                go_wp2_with fail
                exact ⟨rfl, by rw [HF.out]; rfl, HG2.out⟩
              | some q =>
                obtain ⟨vu, r6⟩ := q
                rw [h6] at hm
                unfold RdEnd at hm
                simp only at hm
                obtain ⟨rfl, hr⟩ := hm
                have hs : ∀ x ∈ r6, x.length ≤ 8796093022000 := fun x hx => hs x (by obtain ⟨_, e, _⟩ := numberV_some.1 h6; rw [e]; simp [hx])
                have H6 := Lib.hid h6
                have hx := HX.out.grown hg (show xb ≠ Br by omega)
                have HX2 := Lib.hid (hx.set 3 (.int .i64 vu))
                have HG := Lib.hid (grown_setNew (HG.out.trans hg) (p := ⟨xb, 3, none⟩) HXB.out (.int .i64 vu))
                have HR := Lib.hid (hr.setNew (p := ⟨xb, 3, none⟩) (show Br < xb by omega) (.int .i64 vu))
                obtain ⟨c0, c1, c2, c3, c4, c5, c6, c7⟩ := cells8 hx
                have fz := hx.frozen
                simp only [List.setIfInBounds_toArray, List.set_cons_zero, List.set_cons_succ] at HX2
                have HRW := Lib.hid hr
                clear hg hr h6 HX hx
                have HX := HX2
                clear HX2
                go_wp2_with fail
                (try clear c0 c1 c2 c3 c4 c5 c6 c7 fz HRW)
                refine (span_any Br wX r6 _ HR.out hs).mono ?_
                rintro e w7 ⟨hm, hg⟩
                cases h7 : spanV wX r6 with
                | none =>
                  rw [h7] at hm
                  unfold SpanEnd at hm
                  simp only at hm
                  subst hm
                  have HF : Hid (formV ws = none) := show _ = _ from by rw [HL.out]; simp only [longV, H1.out, H2.out, H3.out, H4.out, H5.out, H6.out, h7]
                  have HG2 := Lib.hid (HG.out.trans hg)
                  clear h7
                  go_wp2_with fail
                  exact ⟨rfl, by rw [HF.out]; rfl, HG2.out⟩
                | some q =>
                  obtain ⟨⟨xl, xh⟩, r7⟩ := q
                  rw [h7] at hm
                  unfold SpanEnd at hm
                  simp only at hm
                  obtain ⟨rfl, hr⟩ := hm
                  have hs : ∀ x ∈ r7, x.length ≤ 8796093022000 := fun x hx => hs x (by obtain ⟨_, _, e, _⟩ := spanV_some h7; rw [e]; simp [hx])
                  have H7 := Lib.hid h7
                  have hx := HX.out.grown hg (show xb ≠ Br by omega)
                  have HX2 := Lib.hid ((hx.set 4 (.int .i64 xl)).set 5 (.int .i64 xh))
                  have HG := Lib.hid (grown_setNew (grown_setNew (HG.out.trans hg) (p := ⟨xb, 4, none⟩) HXB.out (.int .i64 xl)) (p := ⟨xb, 5, none⟩) HXB.out (.int .i64 xh))
                  have HR := Lib.hid ((hr.setNew (p := ⟨xb, 4, none⟩) (show Br < xb by omega) (.int .i64 xl)).setNew (p := ⟨xb, 5, none⟩) (show Br < xb by omega) (.int .i64 xh))
                  obtain ⟨c0, c1, c2, c3, c4, c5, c6, c7⟩ := cells8 hx
                  have fz := hx.frozen
                  simp only [List.setIfInBounds_toArray, List.set_cons_zero, List.set_cons_succ] at HX2
                  have HRW := Lib.hid hr
                  clear hg hr h7 HX hx
                  have HX := HX2
                  clear HX2
                  go_wp2_with fail
                  (try clear c0 c1 c2 c3 c4 c5 c6 c7 fz HRW)
                  refine (span_any Br wY r7 _ HR.out hs).mono ?_
                  rintro e w8 ⟨hm, hg⟩
                  cases h8 : spanV wY r7 with
                  | none =>
                    rw [h8] at hm
                    unfold SpanEnd at hm
                    simp only at hm
                    subst hm
                    have HF : Hid (formV ws = none) := show _ = _ from by rw [HL.out]; simp only [longV, H1.out, H2.out, H3.out, H4.out, H5.out, H6.out, H7.out, h8]
                    have HG2 := Lib.hid (HG.out.trans hg)
                    clear h8
                    go_wp2_with fail
                    exact ⟨rfl, by rw [HF.out]; rfl, HG2.out⟩
                  | some q =>
                    obtain ⟨⟨yl, yh⟩, r8⟩ := q
                    rw [h8] at hm
                    unfold SpanEnd at hm
                    simp only at hm
                    obtain ⟨rfl, hr⟩ := hm
                    have hs : ∀ x ∈ r8, x.length ≤ 8796093022000 := fun x hx => hs x (by obtain ⟨_, _, e, _⟩ := spanV_some h8; rw [e]; simp [hx])
                    have H8 := Lib.hid h8
                    have hx := HX.out.grown hg (show xb ≠ Br by omega)
                    have HX2 := Lib.hid ((hx.set 6 (.int .i64 yl)).set 7 (.int .i64 yh))
                    have HG := Lib.hid (grown_setNew (grown_setNew (HG.out.trans hg) (p := ⟨xb, 6, none⟩) HXB.out (.int .i64 yl)) (p := ⟨xb, 7, none⟩) HXB.out (.int .i64 yh))
                    have HR := Lib.hid ((hr.setNew (p := ⟨xb, 6, none⟩) (show Br < xb by omega) (.int .i64 yl)).setNew (p := ⟨xb, 7, none⟩) (show Br < xb by omega) (.int .i64 yh))
                    obtain ⟨c0, c1, c2, c3, c4, c5, c6, c7⟩ := cells8 hx
                    have fz := hx.frozen
                    simp only [List.setIfInBounds_toArray, List.set_cons_zero, List.set_cons_succ] at HX2
                    have HRW := Lib.hid hr
                    clear hg hr h8 HX hx
                    have HX := HX2
                    clear HX2
                    cases r8 with
                    | cons p8 q8 =>
                      have HF : Hid (formV ws = none) := show _ = _ from by rw [HL.out]; simp [longV, H1.out, H2.out, H3.out, H4.out, H5.out, H6.out, H7.out, H8.out]
                      have hrw := HR.out
                      go_upto_region 13 with fail
                      clear c0 c1 c2 c3 c4 c5 c6 c7 fz HRW HX
                      generalize (w8.setCell ⟨xb, 6, none⟩ (.int .i64 yl)).setCell ⟨xb, 7, none⟩ (.int .i64 yh) = wz at *
                      obtain ⟨ra, rc, hrc, hrf, hrl, _⟩ := hrw
                      simp only [List.length_cons] at hrc
                      go_wp2_with fail
                      exact ⟨rfl, by rw [HF.out]; rfl, HG.out⟩
                    | nil =>
                      have HL2 : Hid (formV ws = some ⟨vn, false, vf, vu, xl, xh, yl, yh⟩) := show _ = _ from by rw [HL.out]; simp [longV, H1.out, H2.out, H3.out, H4.out, H5.out, H6.out, H7.out, H8.out]
                      go_upto_region 13 with fail
                      clear c0 c1 c2 c3 c4 c5 c6 c7 fz HRW
                      generalize (w8.setCell ⟨xb, 6, none⟩ (.int .i64 yl)).setCell ⟨xb, 7, none⟩ (.int .i64 yh) = wz at *
                      -- the ranges of what was read (⟨vn, false, vf, vu, xl, xh, yl, yh⟩: its fields, as an NT; vn .. yh: n f u xl xh yl yh): no word is left
                      obtain ⟨ra, rc, hrc, hrf, hrl, _⟩ := id HR.out
                      have hgB : Hid (∀ w', Below wz.heap.size wz w' → W.grownBy w' (some Br)) := show ∀ _, _ from fun w' hb => grown_after HR.out.lt HG.out hb
                      have hrlt : Br < wz.heap.size := HR.out.lt
                      have hxl : xb < wz.heap.size := HX.out.lt
                      simp only [List.length_nil] at hrc
                      obtain ⟨c0, c1, c2, c3, c4, c5, c6, c7⟩ := cells8 HX.out
                      have fz := HX.out.frozen
                      have HXZ := HX
                      clear HR HG HX hrl
                      cases o1 : outB vn 1 9999 with
                      | true =>
                        have HF : Hid (rangeB ⟨vn, false, vf, vu, xl, xh, yl, yh⟩ = true) := show _ = _ from by unfold rangeB; simp [o1]
                        go_wp2_with (first | (go_at_call 64; refine (out_any _ _ _ _).mono ?_; rintro e w' ⟨rfl, rfl⟩) | (go_at_call 141; refine (km_any _ _ _).mono ?_; rintro e w' ⟨rfl, hb⟩; obtain ⟨hc, hf⟩ := bcell hb; have hz := hb.size; (try simp at hz)))
                        all_goals (exact ⟨rfl, by rw [HL2.out]; simp only [NotEnd, HF.out, if_true], hgB.out _ (by repeat (first | exact Below.refl _ _ | assumption | refine balloc ?_ _ | refine below_trans ?_ (by assumption) | refine Below.drew ?_ | refine below_drewN ?_ _ | refine Below.setCell ?_ (by simp <;> omega) _))⟩)
                      | false =>
                        cases o2 : outB vu 0 100000 with
                        | true =>
                          have HF : Hid (rangeB ⟨vn, false, vf, vu, xl, xh, yl, yh⟩ = true) := show _ = _ from by unfold rangeB; simp [o2]
                          go_wp2_with (first | (go_at_call 64; refine (out_any _ _ _ _).mono ?_; rintro e w' ⟨rfl, rfl⟩) | (go_at_call 141; refine (km_any _ _ _).mono ?_; rintro e w' ⟨rfl, hb⟩; obtain ⟨hc, hf⟩ := bcell hb; have hz := hb.size; (try simp at hz)))
                          all_goals (exact ⟨rfl, by rw [HL2.out]; simp only [NotEnd, HF.out, if_true], hgB.out _ (by repeat (first | exact Below.refl _ _ | assumption | refine balloc ?_ _ | refine below_trans ?_ (by assumption) | refine Below.drew ?_ | refine below_drewN ?_ _ | refine Below.setCell ?_ (by simp <;> omega) _))⟩)
                        | false =>
                          cases o3 : outB vf 0 vu with
                          | true =>
                            have HF : Hid (rangeB ⟨vn, false, vf, vu, xl, xh, yl, yh⟩ = true) := show _ = _ from by unfold rangeB; simp [o3]
                            go_wp2_with (first | (go_at_call 64; refine (out_any _ _ _ _).mono ?_; rintro e w' ⟨rfl, rfl⟩) | (go_at_call 141; refine (km_any _ _ _).mono ?_; rintro e w' ⟨rfl, hb⟩; obtain ⟨hc, hf⟩ := bcell hb; have hz := hb.size; (try simp at hz)))
                            all_goals (exact ⟨rfl, by rw [HL2.out]; simp only [NotEnd, HF.out, if_true], hgB.out _ (by repeat (first | exact Below.refl _ _ | assumption | refine balloc ?_ _ | refine below_trans ?_ (by assumption) | refine Below.drew ?_ | refine below_drewN ?_ _ | refine Below.setCell ?_ (by simp <;> omega) _))⟩)
                          | false =>
                            cases o4 : kmB xl xh with
                            | true =>
                              have HF : Hid (rangeB ⟨vn, false, vf, vu, xl, xh, yl, yh⟩ = true) := show _ = _ from by unfold rangeB; simp [o4]
                              go_wp2_with (first | (go_at_call 64; refine (out_any _ _ _ _).mono ?_; rintro e w' ⟨rfl, rfl⟩) | (go_at_call 141; refine (km_any _ _ _).mono ?_; rintro e w' ⟨rfl, hb⟩; obtain ⟨hc, hf⟩ := bcell hb; have hz := hb.size; (try simp at hz)))
                              all_goals (exact ⟨rfl, by rw [HL2.out]; simp only [NotEnd, HF.out, if_true], hgB.out _ (by repeat (first | exact Below.refl _ _ | assumption | refine balloc ?_ _ | refine below_trans ?_ (by assumption) | refine Below.drew ?_ | refine below_drewN ?_ _ | refine Below.setCell ?_ (by simp <;> omega) _))⟩)
                            | false =>
                              cases o5 : kmB yl yh with
                              | true =>
                                have HF : Hid (rangeB ⟨vn, false, vf, vu, xl, xh, yl, yh⟩ = true) := show _ = _ from by unfold rangeB; simp [o5]
                                go_wp2_with (first | (go_at_call 64; refine (out_any _ _ _ _).mono ?_; rintro e w' ⟨rfl, rfl⟩) | (go_at_call 141; refine (km_any _ _ _).mono ?_; rintro e w' ⟨rfl, hb⟩; obtain ⟨hc, hf⟩ := bcell hb; have hz := hb.size; (try simp at hz)))
                                all_goals (exact ⟨rfl, by rw [HL2.out]; simp only [NotEnd, HF.out, if_true], hgB.out _ (by repeat (first | exact Below.refl _ _ | assumption | refine balloc ?_ _ | refine below_trans ?_ (by assumption) | refine Below.drew ?_ | refine below_drewN ?_ _ | refine Below.setCell ?_ (by simp <;> omega) _))⟩)
                              | false =>
                                have HF : Hid (rangeB ⟨vn, false, vf, vu, xl, xh, yl, yh⟩ = false) := show _ = _ from by unfold rangeB; simp [o1, o2, o3, o4, o5]
                                have hz0 : Hid (Below wz.heap.size wz wz) := show Below _ _ _ from Below.refl _ _
                                go_upto_region 18 with (first | (go_at_call 64; refine (out_any _ _ _ _).mono ?_; rintro e w' ⟨rfl, rfl⟩) | (go_at_call 141; refine (km_any _ _ _).mono ?_; rintro e w' ⟨rfl, hb⟩; have hz0 := Lib.hid (below_trans hz0.out hb); have HXZ := Lib.hid (HXZ.out.below hb); clear c0 c1 c2 c3 c4 c5 c6 c7 fz; obtain ⟨c0, c1, c2, c3, c4, c5, c6, c7⟩ := cells8 HXZ.out; have fz := HXZ.out.frozen; have hxl : xb < w'.heap.size := HXZ.out.lt))
                                have hgz := Lib.hid (hgB.out _ hz0.out)
                                go_wp2_with fail
                                have hxF := (((((((HXZ.out.set 0 (.int .i64 vn)).set 1 (.bool false)).set 2 (.int .i64 vf)).set 3 (.int .i64 vu)).set 4 (.int .i64 xl)).set 5 (.int .i64 xh)).set 6 (.int .i64 yl)).set 7 (.int .i64 yh)
                                simp only [List.setIfInBounds_toArray, List.set_cons_zero, List.set_cons_succ] at hxF
                                obtain ⟨e0, e1, e2, e3, e4, e5, e6, e7⟩ := cells8 hxF
                                have hgF := grown_setNew (grown_setNew (grown_setNew (grown_setNew (grown_setNew (grown_setNew (grown_setNew (grown_setNew hgz.out (p := ⟨xb, 0, none⟩) HXB.out (.int .i64 vn)) (p := ⟨xb, 1, none⟩) HXB.out (.bool false)) (p := ⟨xb, 2, none⟩) HXB.out (.int .i64 vf)) (p := ⟨xb, 3, none⟩) HXB.out (.int .i64 vu)) (p := ⟨xb, 4, none⟩) HXB.out (.int .i64 xl)) (p := ⟨xb, 5, none⟩) HXB.out (.int .i64 xh)) (p := ⟨xb, 6, none⟩) HXB.out (.int .i64 yl)) (p := ⟨xb, 7, none⟩) HXB.out (.int .i64 yh)
                                refine bodyPost_ret (v := .agg (ntV ⟨vn, false, vf, vu, xl, xh, yl, yh⟩)) (by simp [results, Tryz.results76, go_sem, e0, e1, e2, e3, e4, e5, e6, e7, ntV, ntc]) rfl ⟨by rw [HL2.out]; simp only [NotEnd, HF.out]; rfl, hgF⟩
end Go.Proofs.YtmglbegbijofkaaGreatDoor
