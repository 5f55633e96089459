import Derived.Test.YtmglbegbijofkaaGreatDoorQ19
import Derived.Test.YtmglbegbijofkaaGreatDoorQ24
import Derived.Shelf.Strings.SlTrimAscii
import Derived.Test.YtmglbegbijofkaaGreatDoorQ03
set_option linter.unusedVariables false
set_option linter.unusedSimpArgs false
namespace Go.Proofs.YtmglbegbijofkaaGreatDoor
open Go.RowKit Go.Maps Go.Sort Go.Shelf

def NumEnd (o : Option Int) (e : Ending) : Prop := e = match o with | some n => .returned (.int .i64 n) | none => .panicked (errP 6)
theorem trim_any (s : ByteArray) (hs : s.size ≤ 9223372036854775807) (w : World) :
    Calls Tryz.prog 199 #[.string s, .string ⟨#[48, 49, 50, 51, 52, 53, 54, 55, 56, 57]⟩] w fun e w' => e = .returned (.string ⟨(Lib.trimS s.data.toList dig10).toArray⟩) ∧ Below w.heap.size w w' := by
  have h := Any.strings_Trim_laid Tryz.lays160 (by kernel_rfl) s ⟨#[48, 49, 50, 51, 52, 53, 54, 55, 56, 57]⟩ w hs (by decide) (ascii_of_all (by decide))
  exact h
theorem head_get (s : ByteArray) (h : 0 < s.size) : s.data.toList.headD 0 = s[0] := by
  have hl : 0 < s.data.toList.length := by simpa using h
  cases hc : s.data.toList with
  | nil => rw [hc] at hl; simp at hl
  | cons c l =>
    have e : s[0] = s.data.toList[0] := by rw [Array.getElem_toList]; rfl
    rw [e]; simp [hc]
set_option maxRecDepth 100000 in
set_option maxHeartbeats 800000 in
theorem plain_s (s : ByteArray) (hs : s.size ≤ 8796093022000) (w : World) :
    Calls Tryz.prog 176 #[.string s] w fun e w' => NumEnd (numV s.data.toList) e ∧ Below w.heap.size w w' := by
  have hlen : s.data.toList.length = s.size := by simp
  by_cases h0 : 0 < s.size
  · have HT := Lib.hid (fun W => trim_any s (by omega) W)
    have hh := head_get s h0
    have hne1 : ¬ s.toList = [] := by
      rw [ByteArray.toList_eq]
      intro e
      rw [e] at hlen
      simp at hlen
      omega
    have hne : s.toList.isEmpty = false := by simpa using hne1
    by_cases h1 : 1 < s.size
    · have z1 : (1 : Int) < (s.size : Int) := by omega
      by_cases h48 : s.data.toList.headD 0 = 48
      · have HN : Hid (numV s.data.toList = none) := show _ = _ from by
          have hb : numBad s.data.toList = true := by
            cases hc : numBad s.data.toList with
            | true => rfl
            | false => exact absurd h48 ((numBad_false.1 hc).2 (by rw [hlen]; exact h1))
          unfold numV; simp [hb]
        have z48 : ((s[0].toNat : Nat) : Int) = 48 := by rw [← hh, h48]; rfl
        clear h48 hh
        go_enter Tryz.func176, Tryz.ntmps176
        go_wp2_with fail
        refine ⟨rfl, ?_, ?_⟩
        · rw [HN.out]; rfl
        · exact Below.refl _ _
      · have z48 : ¬ ((s[0].toNat : Nat) : Int) = 48 := by
          rw [← hh]
          intro h
          exact h48 (UInt8.toNat_inj.1 (by have : (s.data.toList.headD 0).toNat = 48 := by omega
                                           simpa using this))
        have hbad : numBad s.data.toList = false := numBad_false.2 ⟨fun e => by rw [e] at hlen; simp at hlen; omega, fun _ => h48⟩
        have z48' : (((s[0].toNat : Nat) : Int) == 48) = false := by simpa using z48
        clear h48 hh
        have HBAD := Lib.hid hbad
        clear hbad
        by_cases hd : s.data.toList.all digB = true
        · have hnil : Lib.trimS s.data.toList dig10 = [] := (trim_nil _).2 hd
          rw [hnil] at HT
          by_cases h9 : 9 < s.size
          · have z9 : (9 : Int) < (s.size : Int) := by omega
            have HN := Lib.hid (numV_long HBAD.out hd (by rw [hlen]; exact h9))
            clear hd hnil
            go_enter Tryz.func176, Tryz.ntmps176
            go_wp2_with (go_at_call 199; refine (HT.out _).mono ?_; rintro e w' ⟨rfl, hB⟩)
            go_ret
            exact ⟨by rw [HN.out]; rfl, hB⟩
          · have z9 : ¬ (9 : Int) < (s.size : Int) := by omega
            have HN := Lib.hid (numV_short HBAD.out hd (by rw [hlen]; omega))
            have HA := Lib.hid (fun W => Tryz.strconv_Atoi s (valD s.data.toList : Int) (by omega) (atoi_val _ hd (numBad_false.1 HBAD.out).1) W)
            clear hd hnil
            generalize ((valD s.data.toList : Nat) : Int) = n at *
            go_enter Tryz.func176, Tryz.ntmps176
            go_wp2_with (go_at_call 199; refine (HT.out _).mono ?_; rintro e w' ⟨rfl, hB⟩)
            refine (HA.out _).mono ?_
            rintro e w2 ⟨rfl, t, rfl⟩
            have hB2 := below_trans hB (bytesWorld_below _ 5 t)
            go_wp2_with fail
            go_ret
            exact ⟨by rw [HN.out]; rfl, hB2⟩
        · have hnn : ¬ Lib.trimS s.data.toList dig10 = [] := fun h => hd ((trim_nil _).1 h)
          have HN : Hid (numV s.data.toList = none) := show _ = _ from by unfold numV; simp [hd]
          generalize Lib.trimS s.data.toList dig10 = r at *
          have hr0 : r.isEmpty = false := by simpa using hnn
          have hr : (!r.isEmpty) = true := by rw [hr0]; rfl
          clear hd hnn
          go_enter Tryz.func176, Tryz.ntmps176
          go_wp2_with (go_at_call 199; refine (HT.out _).mono ?_; rintro e w' ⟨rfl, hB⟩)
          refine ⟨rfl, ?_, hB⟩
          rw [HN.out]; rfl
    · have z1 : ¬ (1 : Int) < (s.size : Int) := by omega
      have hbad : numBad s.data.toList = false := numBad_false.2 ⟨fun e => by rw [e] at hlen; simp at hlen; omega, fun h => absurd h (by rw [hlen]; exact h1)⟩
      clear hh
      have HBAD := Lib.hid hbad
      clear hbad
      by_cases hd : s.data.toList.all digB = true
      · have hnil : Lib.trimS s.data.toList dig10 = [] := (trim_nil _).2 hd
        rw [hnil] at HT
        by_cases h9 : 9 < s.size
        · have z9 : (9 : Int) < (s.size : Int) := by omega
          have HN := Lib.hid (numV_long HBAD.out hd (by rw [hlen]; exact h9))
          clear hd hnil
          go_enter Tryz.func176, Tryz.ntmps176
          go_wp2_with (go_at_call 199; refine (HT.out _).mono ?_; rintro e w' ⟨rfl, hB⟩)
          go_ret
          exact ⟨by rw [HN.out]; rfl, hB⟩
        · have z9 : ¬ (9 : Int) < (s.size : Int) := by omega
          have HN := Lib.hid (numV_short HBAD.out hd (by rw [hlen]; omega))
          have HA := Lib.hid (fun W => Tryz.strconv_Atoi s (valD s.data.toList : Int) (by omega) (atoi_val _ hd (numBad_false.1 HBAD.out).1) W)
          clear hd hnil
          generalize ((valD s.data.toList : Nat) : Int) = n at *
          go_enter Tryz.func176, Tryz.ntmps176
          go_wp2_with (go_at_call 199; refine (HT.out _).mono ?_; rintro e w' ⟨rfl, hB⟩)
          refine (HA.out _).mono ?_
          rintro e w2 ⟨rfl, t, rfl⟩
          have hB2 := below_trans hB (bytesWorld_below _ 5 t)
          go_wp2_with fail
          go_ret
          exact ⟨by rw [HN.out]; rfl, hB2⟩
      · have hnn : ¬ Lib.trimS s.data.toList dig10 = [] := fun h => hd ((trim_nil _).1 h)
        have HN : Hid (numV s.data.toList = none) := show _ = _ from by unfold numV; simp [hd]
        generalize Lib.trimS s.data.toList dig10 = r at *
        have hr0 : r.isEmpty = false := by simpa using hnn
        have hr : (!r.isEmpty) = true := by rw [hr0]; rfl
        clear hd hnn
        go_enter Tryz.func176, Tryz.ntmps176
        go_wp2_with (go_at_call 199; refine (HT.out _).mono ?_; rintro e w' ⟨rfl, hB⟩)
        refine ⟨rfl, ?_, hB⟩
        rw [HN.out]; rfl
  · have hs0 : s = ⟨#[]⟩ := by
      have : s.data = #[] := Array.eq_empty_of_size_eq_zero (by show s.size = 0; omega)
      cases s; simp at this; rw [this]
    subst hs0
    have HN : Hid (numV ((⟨#[]⟩ : ByteArray).data.toList) = none) := show _ = _ from rfl
    go_enter Tryz.func176, Tryz.ntmps176
    go_wp2_with fail
    refine ⟨rfl, ?_, ?_⟩
    · rw [HN.out]; rfl
    · exact Below.refl _ _
theorem plain_any (x : List UInt8) (hs : x.length ≤ 8796093022000) (w : World) :
    Calls Tryz.prog 176 #[encStr x] w fun e w' => NumEnd (numV x) e ∧ Below w.heap.size w w' := by
  have h := plain_s ⟨x.toArray⟩ (by show x.toArray.size ≤ _; simpa using hs) w
  simpa [encStr] using h
theorem grown_after {W W1 W2 : World} {r : Nat} (hr : r < W1.heap.size) (hg : W.grownBy W1 (some r)) (hb : Below W1.heap.size W1 W2) : W.grownBy W2 (some r) :=
  ⟨hb.os.trans hg.os, hb.tape.trans hg.tape, hb.output.trans hg.output, Nat.le_trans hg.size hb.size, fun k hk hn => (hb.block k (Nat.lt_of_lt_of_le hk hg.size)).trans (hg.block k hk hn)⟩
theorem RdAt.lt {W : World} {Br : Nat} {ws : List (List UInt8)} (h : RdAt W Br ws) : Br < W.heap.size := by
  obtain ⟨a, c, hc, _⟩ := h
  exact World.block_lt_of_cell? _ _ hc
def RdEnd (Br : Nat) (o : Option (Int × List (List UInt8))) (e : Ending) (w' : World) : Prop :=
  match o with
  | none => e = .panicked (errP 6)
  | some (n, r) => e = .returned (.int .i64 n) ∧ RdAt w' Br r
set_option maxRecDepth 100000 in
set_option maxHeartbeats 800000 in
theorem number_any (Br : Nat) (ws : List (List UInt8)) (W : World) (h : RdAt W Br ws) (hs : ∀ x ∈ ws, x.length ≤ 8796093022000) : Calls Tryz.prog 139 #[.pointer (some ⟨Br, 0, none⟩)] W fun e w' => RdEnd Br (numberV ws) e w' ∧ W.grownBy w' (some Br) := by
  cases ws with
  | nil =>
    have HC := Lib.hid (word_nil Br W h)
    clear h
    go_enter Tryz.func139, Tryz.ntmps139
    go_wp2_with fail
    refine HC.out.mono ?_
    rintro e w1 ⟨rfl, rfl⟩
    go_wp2_with fail
    exact ⟨rfl, rfl, World.grownBy.refl _ _⟩
  | cons x ws =>
    have HC := Lib.hid (word_cons Br x ws W h)
    have HP := Lib.hid (fun W => plain_any x (hs x (by simp)) W)
    have HN : Hid (numberV (x :: ws) = match numV x with | some n => some (n, ws) | none => none) := show _ = _ from rfl
    clear h hs
    unfold NumEnd at HP
    go_enter Tryz.func139, Tryz.ntmps139
    go_wp2_with fail
    refine HC.out.mono ?_
    rintro e w1 ⟨rfl, hr, hg⟩
    have HR := Lib.hid hr
    have HG := Lib.hid hg
    clear hr hg
    go_wp2_with fail
    refine (HP.out _).mono ?_
    rintro e w2 ⟨he, hb⟩
    have hr2 := HR.out.below hb
    have hg2 := grown_after HR.out.lt HG.out hb
    cases hv : numV x with
    | none =>
      rw [hv] at he
      simp only at he
      subst he
      have HF : Hid (numberV (x :: ws) = none) := show _ = _ from by rw [HN.out, hv]
      go_wp2_with fail
      exact ⟨rfl, by rw [HF.out]; rfl, hg2⟩
    | some n =>
      rw [hv] at he
      simp only at he
      subst he
      have HV : Hid (numberV (x :: ws) = some (n, ws)) := show _ = _ from by rw [HN.out, hv]
      have HF := Lib.hid (And.intro hr2 hg2)
      clear hr2 hg2 hb HR HG
      go_wp2_with fail
      go_ret
      exact ⟨by rw [HV.out]; exact ⟨rfl, HF.out.1⟩, HF.out.2⟩
set_option maxRecDepth 100000 in
set_option maxHeartbeats 800000 in
theorem signed_any (Br : Nat) (ws : List (List UInt8)) (W : World) (h : RdAt W Br ws) (hs : ∀ x ∈ ws, x.length ≤ 8796093022000) : Calls Tryz.prog 177 #[.pointer (some ⟨Br, 0, none⟩)] W fun e w' => RdEnd Br (signedV ws) e w' ∧ W.grownBy w' (some Br) := by
  cases ws with
  | nil =>
    have HC := Lib.hid (word_nil Br W h)
    clear h
    go_enter Tryz.func177, Tryz.ntmps177
    go_wp2_with fail
    refine HC.out.mono ?_
    rintro e w1 ⟨rfl, rfl⟩
    go_wp2_with fail
    exact ⟨rfl, rfl, World.grownBy.refl _ _⟩
  | cons x ws =>
    have HC := Lib.hid (word_cons Br x ws W h)
    have HN : Hid (signedV (x :: ws) = match sigV x with | some n => some (n, ws) | none => none) := show _ = _ from rfl
    have hx := hs x (by simp)
    clear h hs
    by_cases h45 : x.headD 0 = 45
    · obtain ⟨l, rfl⟩ : ∃ l, x = 45 :: l := by
        cases x with
        | nil => simp at h45
        | cons c l => simp at h45; subst h45; exact ⟨l, rfl⟩
      have HX : Hid (∀ W : World, Calls Tryz.prog 201 #[.string ⟨(45 :: l : List UInt8).toArray⟩, .string ⟨#[45]⟩] W fun e w' => e = .returned (.tuple #[.string ⟨l.toArray⟩, .bool true]) ∧ w' = W) := show ∀ _, _ from fun W => by
        have h := Tryz.strings_CutPrefix ⟨(45 :: l : List UInt8).toArray⟩ ⟨#[45]⟩ W
        have e1 : Lib.trimPrefix (45 :: l) [45] = l := by simp [Lib.trimPrefix, Lib.hasPrefix]
        have e2 : Lib.hasPrefix (45 :: l) [45] = true := by simp [Lib.hasPrefix]
        simpa [e1, e2] using h
      have HS : Hid (sigV (45 :: l) = match numV l with | some n => if 0 < n then some (-n) else none | none => none) := show _ = _ from rfl
      have HP := Lib.hid (fun W => plain_any l (by simp at hx; omega) W)
      clear h45 hx
      unfold NumEnd at HP
      generalize hXL : (45 :: l : List UInt8) = X at *
      unfold encStr at HC HP
      go_enter Tryz.func177, Tryz.ntmps177
      go_wp2_with fail
      refine HC.out.mono ?_
      rintro e w1 ⟨rfl, hr, hg⟩
      have HR := Lib.hid hr
      have HG := Lib.hid hg
      clear hr hg
      go_wp2_with fail
      refine (HX.out _).mono ?_
      rintro e w1' ⟨rfl, rfl⟩
      go_wp2_with fail
      refine (HP.out _).mono ?_
      rintro e w2 ⟨he, hb⟩
      have HF := Lib.hid (And.intro (HR.out.below hb) (grown_after HR.out.lt HG.out hb))
      clear hb HR HG
      cases hv : numV l with
      | none =>
        rw [hv] at he
        simp only at he
        subst he
        have HV : Hid (signedV (X :: ws) = none) := show _ = _ from by rw [HN.out, HS.out, hv]
        go_wp2_with fail
        exact ⟨rfl, by rw [HV.out]; rfl, HF.out.2⟩
      | some n =>
        have hbd := numV_bd hv
        rw [hv] at he
        simp only at he
        subst he
        by_cases hn : 0 < n
        · have hn0 : ¬ n = 0 := by omega
          have hw : IntKind.i64.wrap (-n) = -n := by rw [IntKind.wrap_i64]; omega
          have HV : Hid (signedV (X :: ws) = some (-n, ws)) := show _ = _ from by rw [HN.out, HS.out, hv]; simp [hn]
          go_wp2_with fail
          go_ret
          exact ⟨by rw [HV.out]; exact ⟨rfl, HF.out.1⟩, HF.out.2⟩
        · have hn0 : n = 0 := by omega
          subst hn0
          have HV : Hid (signedV (X :: ws) = none) := show _ = _ from by rw [HN.out, HS.out, hv]; simp
          go_wp2_with fail
          exact ⟨rfl, by rw [HV.out]; rfl, HF.out.2⟩
    · have HX : Hid (∀ W : World, Calls Tryz.prog 201 #[.string ⟨x.toArray⟩, .string ⟨#[45]⟩] W fun e w' => e = .returned (.tuple #[.string ⟨x.toArray⟩, .bool false]) ∧ w' = W) := show ∀ _, _ from fun W => by
        have h := Tryz.strings_CutPrefix ⟨x.toArray⟩ ⟨#[45]⟩ W
        have e2 : Lib.hasPrefix x [45] = false := by
          cases x with
          | nil => simp [Lib.hasPrefix]
          | cons c l =>
            simp at h45
            cases hq : Lib.hasPrefix (c :: l) [45] with
            | false => rfl
            | true => simp [Lib.hasPrefix, List.isPrefixOf] at hq; exact absurd hq.symm h45
        have e1 : Lib.trimPrefix x [45] = x := by simp [Lib.trimPrefix, e2]
        simpa [e1, e2] using h
      have HS : Hid (sigV x = numV x) := show _ = _ from by unfold sigV; rw [if_neg h45]
      have HP := Lib.hid (fun W => plain_any x hx W)
      clear h45 hx
      unfold NumEnd at HP
      unfold encStr at HC HP
      go_enter Tryz.func177, Tryz.ntmps177
      go_wp2_with fail
      refine HC.out.mono ?_
      rintro e w1 ⟨rfl, hr, hg⟩
      have HR := Lib.hid hr
      have HG := Lib.hid hg
      clear hr hg
      go_wp2_with fail
      refine (HX.out _).mono ?_
      rintro e w1' ⟨rfl, rfl⟩
      go_wp2_with fail
      refine (HP.out _).mono ?_
      rintro e w2 ⟨he, hb⟩
      have HF := Lib.hid (And.intro (HR.out.below hb) (grown_after HR.out.lt HG.out hb))
      clear hb HR HG
      cases hv : numV x with
      | none =>
        rw [hv] at he
        simp only at he
        subst he
        have HV : Hid (signedV (x :: ws) = none) := show _ = _ from by rw [HN.out, HS.out, hv]
        go_wp2_with fail
        exact ⟨rfl, by rw [HV.out]; rfl, HF.out.2⟩
      | some n =>
        rw [hv] at he
        simp only at he
        subst he
        have HV : Hid (signedV (x :: ws) = some (n, ws)) := show _ = _ from by rw [HN.out, HS.out, hv]
        go_wp2_with fail
        go_ret
        exact ⟨by rw [HV.out]; exact ⟨rfl, HF.out.1⟩, HF.out.2⟩
end Go.Proofs.YtmglbegbijofkaaGreatDoor
namespace Go.Proofs.YtmglbegbijofkaaGreatDoor
open Go.RowKit Go.Maps Go.Sort Go.Shelf

theorem cells8 {W : World} {b : Nat} {t : TypeId} {a0 a1 a2 a3 a4 a5 a6 a7 : Value} (h : cellsAt W b t #[a0, a1, a2, a3, a4, a5, a6, a7]) : W.cell? ⟨b, 0, none⟩ = some a0 ∧ W.cell? ⟨b, 1, none⟩ = some a1 ∧ W.cell? ⟨b, 2, none⟩ = some a2 ∧ W.cell? ⟨b, 3, none⟩ = some a3 ∧ W.cell? ⟨b, 4, none⟩ = some a4 ∧ W.cell? ⟨b, 5, none⟩ = some a5 ∧ W.cell? ⟨b, 6, none⟩ = some a6 ∧ W.cell? ⟨b, 7, none⟩ = some a7 :=
  ⟨h.cell 0, h.cell 1, h.cell 2, h.cell 3, h.cell 4, h.cell 5, h.cell 6, h.cell 7⟩
theorem RdAt.setNew {W : World} {Br : Nat} {ws : List (List UInt8)} (h : RdAt W Br ws) {p : Addr} (hp : Br < p.block) (v : Value) : RdAt (W.setCell p v) Br ws := by
  obtain ⟨a, c, hc, hf, hlc, hor⟩ := h
  have hcell : ∀ b o, b ≤ Br → (W.setCell p v).cell? ⟨b, o, none⟩ = W.cell? ⟨b, o, none⟩ := fun b o hb => by
    refine World.cell?_of_block (w := W) (Below.heap_setCell _ _ _ b (by omega))
  refine ⟨a, c, (hcell Br 0 (Nat.le_refl _)).trans hc, by rw [World.frozen?_setCell]; exact hf, hlc, ?_⟩
  rcases hor with h0 | ⟨b, off, ha, hbb, hcells⟩
  · exact .inl h0
  · exact .inr ⟨b, off, ha, hbb, fun i hi => (hcell b _ (by omega)).trans (hcells i hi)⟩
theorem grown_setNew {W w : World} {r : Option Nat} (h : W.grownBy w r) {p : Addr} (hp : W.heap.size ≤ p.block) (v : Value) : W.grownBy (w.setCell p v) r :=
  ⟨h.os, h.tape, h.output, by simpa [World.setCell] using h.size, fun k hk hn => (Below.heap_setCell _ _ _ k (by omega)).trans (h.block k hk hn)⟩
def MustEnd (Br : Nat) (o : Option (List (List UInt8))) (e : Ending) (w' : World) : Prop :=
  match o with
  | none => e = .panicked (errP 6)
  | some r => e = .returned (.tuple #[]) ∧ RdAt w' Br r
theorem must_any (Br : Nat) (y : List UInt8) (ws : List (List UInt8)) (W : World) (h : RdAt W Br ws) : Calls Tryz.prog 138 #[.pointer (some ⟨Br, 0, none⟩), encStr y] W fun e w' => MustEnd Br (mustV y ws) e w' ∧ W.grownBy w' (some Br) := by
  cases ws with
  | nil => exact (must_nil Br y W h).mono fun e w' ⟨he, hg⟩ => ⟨he, hg⟩
  | cons x ws =>
    by_cases hxy : x = y
    · subst hxy
      have e : mustV x (x :: ws) = some ws := by simp [mustV]
      rw [e]
      exact (must_ok Br x ws W h).mono fun e w' ⟨he, hr, hg⟩ => ⟨⟨he, hr⟩, hg⟩
    · have e : mustV y (x :: ws) = none := by simp [mustV, hxy]
      rw [e]
      exact (must_bad Br x y ws W h hxy).mono fun e w' ⟨he, hg⟩ => ⟨he, hg⟩
def SpanEnd (Br : Nat) (o : Option ((Int × Int) × List (List UInt8))) (e : Ending) (w' : World) : Prop :=
  match o with
  | none => e = .panicked (errP 6)
  | some ((a, b), r) => e = .returned (.agg #[.int .i64 a, .int .i64 b]) ∧ RdAt w' Br r
set_option maxRecDepth 100000 in
set_option maxHeartbeats 800000 in
theorem span_any (Br : Nat) (y : List UInt8) (ws : List (List UInt8)) (W : World) (h : RdAt W Br ws) (hs : ∀ x ∈ ws, x.length ≤ 8796093022000) : Calls Tryz.prog 140 #[.pointer (some ⟨Br, 0, none⟩), encStr y] W fun e w' => SpanEnd Br (spanV y ws) e w' ∧ W.grownBy w' (some Br) := by
  have hlt := h.lt
  have HY : Hid (∀ W' : World, RdAt W' Br ws → Calls Tryz.prog 138 #[.pointer (some ⟨Br, 0, none⟩), encStr y] W' fun e w' => MustEnd Br (mustV y ws) e w' ∧ W'.grownBy w' (some Br)) := show ∀ _, _ from fun W' h => must_any Br y ws W' h
  have HR := Lib.hid (h.below (Below.refl _ _ |>.alloc (Nat.le_refl _) (.cells #[.int .i64 0, .int .i64 0] 23)))
  have HX := Lib.hid (cellsNew W #[.int .i64 0, .int .i64 0] 23)
  have HG : Hid (W.grownBy (W.alloc (.cells #[.int .i64 0, .int .i64 0] 23)) (some Br)) := World.grownBy_alloc _ _ _
  have hxb : W.heap.size ≤ W.heap.size := Nat.le_refl _
  unfold encStr at HY ⊢
  clear h
  go_enter Tryz.func140, Tryz.ntmps140
  go_wp2_with fail
  generalize W.alloc (.cells #[.int .i64 0, .int .i64 0] 23) = W0 at *
  refine (HY.out _ HR.out).mono ?_
  rintro e w1 ⟨hm, hg⟩
  cases h1 : mustV y ws with
  | none =>
    rw [h1] at hm
    unfold MustEnd at hm
    simp only at hm
    subst hm
    have HF : Hid (spanV y ws = none) := show _ = _ from by simp only [spanV, h1]
    have HG2 := Lib.hid (HG.out.trans hg)
    clear h1
    go_wp2_with fail
    exact ⟨rfl, by rw [HF.out]; rfl, HG2.out⟩
  | some r1 =>
    rw [h1] at hm
    unfold MustEnd at hm
    simp only at hm
    obtain ⟨rfl, hr⟩ := hm
    have hs : ∀ x ∈ r1, x.length ≤ 8796093022000 := fun x hx => hs x (by rw [mustV_some.1 h1]; simp [hx])
    have H1 := Lib.hid h1
    have HX := Lib.hid (HX.out.grown hg (by omega))
    have HG := Lib.hid (HG.out.trans hg)
    have HR := Lib.hid hr
    clear hg hr h1
    go_wp2_with fail
    refine (signed_any Br r1 _ HR.out hs).mono ?_
    rintro e w2 ⟨hm, hg⟩
    cases h2 : signedV r1 with
    | none =>
      rw [h2] at hm
      unfold RdEnd at hm
      simp only at hm
      subst hm
      have HF : Hid (spanV y ws = none) := show _ = _ from by simp only [spanV, H1.out, h2]
      have HG2 := Lib.hid (HG.out.trans hg)
      clear h2
      go_wp2_with fail
      exact ⟨rfl, by rw [HF.out]; rfl, HG2.out⟩
    | some q =>
      obtain ⟨a, r2⟩ := q
      rw [h2] at hm
      unfold RdEnd at hm
      simp only at hm
      obtain ⟨rfl, hr⟩ := hm
      have hs : ∀ x ∈ r2, x.length ≤ 8796093022000 := fun x hx => hs x (by obtain ⟨_, e, _⟩ := signedV_some.1 h2; rw [e]; simp [hx])
      have H2 := Lib.hid h2
      have HX := Lib.hid (HX.out.grown hg (by omega))
      have HG := Lib.hid (HG.out.trans hg)
      have HR := Lib.hid hr
      clear hg hr h2
      go_wp2_with fail
      refine (signed_any Br r2 _ HR.out hs).mono ?_
      rintro e w3 ⟨hm, hg⟩
      cases h3 : signedV r2 with
      | none =>
        rw [h3] at hm
        unfold RdEnd at hm
        simp only at hm
        subst hm
        have HF : Hid (spanV y ws = none) := show _ = _ from by simp only [spanV, H1.out, H2.out, h3]
        have HG2 := Lib.hid (HG.out.trans hg)
        clear h3
        go_wp2_with fail
        exact ⟨rfl, by rw [HF.out]; rfl, HG2.out⟩
      | some q =>
        obtain ⟨b, r3⟩ := q
        rw [h3] at hm
        unfold RdEnd at hm
        simp only at hm
        obtain ⟨rfl, hr⟩ := hm
        have HF : Hid (spanV y ws = some ((a, b), r3)) := show _ = _ from by simp only [spanV, H1.out, H2.out, h3]
        have hx := HX.out.grown hg (by omega)
        have HE := Lib.hid (And.intro ((hr.setNew (p := ⟨W.heap.size, 0, none⟩) hlt (.int .i64 a)).setNew (p := ⟨W.heap.size, 1, none⟩) hlt (.int .i64 b)) (grown_setNew (grown_setNew (HG.out.trans hg) (p := ⟨W.heap.size, 0, none⟩) hxb (.int .i64 a)) (p := ⟨W.heap.size, 1, none⟩) hxb (.int .i64 b)))
        obtain ⟨c0, c1⟩ := cells2 hx
        have fz := hx.frozen
        have HX2 := Lib.hid hx
        clear hg hr h3 HX HG HR hx
        go_wp2_with fail
        have hx2 := HX2.out
        have hxF := (hx2.set 0 (.int .i64 a)).set 1 (.int .i64 b)
        simp only [List.setIfInBounds_toArray, List.set_cons_zero, List.set_cons_succ] at hxF
        obtain ⟨e0, e1⟩ := cells2 hxF
        refine bodyPost_ret (v := .agg #[.int .i64 a, .int .i64 b]) (by simp [results, Tryz.results140, go_sem, e0, e1]) rfl ?_
        · rw [HF.out]
          exact ⟨⟨rfl, HE.out.1⟩, HE.out.2⟩
set_option maxHeartbeats 400000 in
theorem km_any (a b : Int) (w : World) :
    Calls Tryz.prog 141 #[.agg #[.int .i64 a, .int .i64 b]] w fun e w' => e = .returned (.bool (kmB a b)) ∧ Below w.heap.size w w' := by
  go_enter Tryz.func141, Tryz.ntmps141
  go_wp2_with (go_at_call 64; refine (out_any _ _ _ _).mono ?_; rintro e w' ⟨rfl, rfl⟩)
  all_goals (go_ret; exact ⟨ret_bool (by simp [kmB, *]), (by repeat (first | exact Below.refl _ _ | assumption | refine balloc ?_ _ | refine below_trans ?_ (by assumption) | refine Below.drew ?_ | refine below_drewN ?_ _ | refine Below.setCell ?_ (by simp <;> omega) _))⟩)
def ntV (x : NT) : Array Value := ntc x.n x.c x.f x.u x.xl x.xh x.yl x.yh
def NotEnd (o : Option NT) (e : Ending) : Prop := e = match o with | none => .panicked (errP 6) | some x => if rangeB x then .panicked (errP 7) else .returned (.agg (ntV x))
set_option maxRecDepth 100000 in
set_option maxHeartbeats 4000000 in
theorem noticeR_any (Br : Nat) (ws : List (List UInt8)) (W : World) (h : RdAt W Br ws) (hs : ∀ x ∈ ws, x.length ≤ 8796093022000) : Calls Tryz.prog 76 #[.pointer (some ⟨Br, 0, none⟩)] W fun e w' => NotEnd (formV ws) e ∧ W.grownBy w' (some Br) := by
  have hlt := h.lt
  obtain ⟨a, c, hc, hf, hlc, hor⟩ := id h
  clear hor
  have HXB0 : Hid (W.heap.size ≤ W.heap.size) := show _ ≤ _ from Nat.le_refl _
  by_cases h2 : ws.length = 2
  · match ws, h2 with
    | [p, q], _ =>
      have HL : Hid (formV [p, q] = if p = wCANCEL then (match numV q with | some n => some ⟨n, true, 0, 0, 0, 0, 0, 0⟩ | none => none) else none) := show _ = _ from rfl
      have HR0 := Lib.hid (h.below (Below.refl _ _ |>.alloc (Nat.le_refl _) (.cells #[.int .i64 0, .bool true, .int .i64 0, .int .i64 0, .int .i64 0, .int .i64 0, .int .i64 0, .int .i64 0] 33)))
      have HX0 := Lib.hid (cellsNew W #[.int .i64 0, .bool true, .int .i64 0, .int .i64 0, .int .i64 0, .int .i64 0, .int .i64 0, .int .i64 0] 33)
      have HG0 : Hid (W.grownBy (W.alloc (.cells #[.int .i64 0, .bool true, .int .i64 0, .int .i64 0, .int .i64 0, .int .i64 0, .int .i64 0, .int .i64 0] 33)) (some Br)) := World.grownBy_alloc _ _ _
      simp only [List.length_cons, List.length_nil] at hc
      clear h
      go_enter Tryz.func76, Tryz.ntmps76
      go_wp2_with fail
      generalize W.alloc (.cells #[.int .i64 0, .bool true, .int .i64 0, .int .i64 0, .int .i64 0, .int .i64 0, .int .i64 0, .int .i64 0] 33) = W1 at *
      have HX := HX0
      have HR := HR0
      have HG := HG0
      have hbx := hlt
      obtain ⟨xb, hxx⟩ : ∃ xb, W.heap.size = xb := ⟨_, rfl⟩
      rw [hxx] at hbx HX
      have HXB : Hid (W.heap.size ≤ xb) := show _ ≤ _ from by omega
      rw [hxx]
      clear hxx hc hf hlc hlt HX0 HR0 HG0 HXB0
      refine (must_any Br wCANCEL [p, q] _ HR.out).mono ?_
      rintro e w1 ⟨hm, hg⟩
      by_cases hp : p = wCANCEL
      · have hmv : mustV wCANCEL [p, q] = some [q] := by simp [mustV, hp]
        have HL := Lib.hid (HL.out.trans (if_pos hp))
        rw [hmv] at hm
        unfold MustEnd at hm
        simp only at hm
        obtain ⟨rfl, hr⟩ := hm
        have HX := Lib.hid (HX.out.grown hg (by omega))
        have HG := Lib.hid (HG.out.trans hg)
        have HR := Lib.hid hr
        clear hg hr hmv hp
        go_wp2_with fail
        refine (number_any Br [q] _ HR.out (fun x hx => hs x (by simp at hx; simp [hx]))).mono ?_
        rintro e w2 ⟨hm, hg⟩
        cases hv : numV q with
        | none =>
          have hnv : numberV [q] = none := by simp [numberV, hv]
          rw [hnv] at hm
          unfold RdEnd at hm
          simp only at hm
          subst hm
          have HF : Hid (formV [p, q] = none) := show _ = _ from by rw [HL.out, hv]
          have HG2 := Lib.hid (HG.out.trans hg)
          clear hnv hv
          go_wp2_with fail
          exact ⟨rfl, by rw [HF.out]; rfl, HG2.out⟩
        | some vn =>
          have hnv : numberV [q] = some (vn, []) := by simp [numberV, hv]
          rw [hnv] at hm
          unfold RdEnd at hm
          simp only at hm
          obtain ⟨rfl, hr⟩ := hm
          have HL2 : Hid (formV [p, q] = some ⟨vn, true, 0, 0, 0, 0, 0, 0⟩) := show _ = _ from by rw [HL.out, hv]
          have hx := HX.out.grown hg (show xb ≠ Br by omega)
          have HX2 := Lib.hid (hx.set 0 (.int .i64 vn))
          have HG := Lib.hid (grown_setNew (HG.out.trans hg) (p := ⟨xb, 0, none⟩) HXB.out (.int .i64 vn))
          have HR := Lib.hid (hr.setNew (p := ⟨xb, 0, none⟩) (show Br < xb by omega) (.int .i64 vn))
          obtain ⟨c0, c1, c2, c3, c4, c5, c6, c7⟩ := cells8 hx
          have fz := hx.frozen
          simp only [List.setIfInBounds_toArray, List.set_cons_zero, List.set_cons_succ] at HX2
          clear hg hr HX hx hnv hv
          have HX := HX2
          clear HX2
          go_upto_region 13 with fail
          clear c0 c1 c2 c3 c4 c5 c6 c7 fz
          generalize w2.setCell ⟨xb, 0, none⟩ (.int .i64 vn) = wz at *
          -- the ranges of what was read (⟨vn, true, 0, 0, 0, 0, 0, 0⟩: its fields, as an NT; vn .. 0: n f u xl xh yl yh): no word is left
          obtain ⟨ra, rc, hrc, hrf, hrl, _⟩ := id HR.out
          have hgB : Hid (∀ w', Below wz.heap.size wz w' → W.grownBy w' (some Br)) := show ∀ _, _ from fun w' hb => grown_after HR.out.lt HG.out hb
          have hrlt : Br < wz.heap.size := HR.out.lt
          have hxl : xb < wz.heap.size := HX.out.lt
          simp only [List.length_nil] at hrc
          obtain ⟨c0, c1, c2, c3, c4, c5, c6, c7⟩ := cells8 HX.out
          have fz := HX.out.frozen
          have HXZ := HX
          clear HR HG HX hrl
          cases o1 : outB vn 1 9999 with
          | true =>
            have HF : Hid (rangeB ⟨vn, true, 0, 0, 0, 0, 0, 0⟩ = true) := show _ = _ from by unfold rangeB; simp [o1]
            go_wp2_with (first | (go_at_call 64; refine (out_any _ _ _ _).mono ?_; rintro e w' ⟨rfl, rfl⟩) | (go_at_call 141; refine (km_any _ _ _).mono ?_; rintro e w' ⟨rfl, hb⟩; obtain ⟨hc, hf⟩ := bcell hb; have hz := hb.size; (try simp at hz)))
            all_goals (exact ⟨rfl, by rw [HL2.out]; simp only [NotEnd, HF.out, if_true], hgB.out _ (by repeat (first | exact Below.refl _ _ | assumption | refine balloc ?_ _ | refine below_trans ?_ (by assumption) | refine Below.drew ?_ | refine below_drewN ?_ _ | refine Below.setCell ?_ (by simp <;> omega) _))⟩)
          | false =>
            cases o2 : outB 0 0 100000 with
            | true =>
              have HF : Hid (rangeB ⟨vn, true, 0, 0, 0, 0, 0, 0⟩ = true) := show _ = _ from by unfold rangeB; simp [o2]
              go_wp2_with (first | (go_at_call 64; refine (out_any _ _ _ _).mono ?_; rintro e w' ⟨rfl, rfl⟩) | (go_at_call 141; refine (km_any _ _ _).mono ?_; rintro e w' ⟨rfl, hb⟩; obtain ⟨hc, hf⟩ := bcell hb; have hz := hb.size; (try simp at hz)))
              all_goals (exact ⟨rfl, by rw [HL2.out]; simp only [NotEnd, HF.out, if_true], hgB.out _ (by repeat (first | exact Below.refl _ _ | assumption | refine balloc ?_ _ | refine below_trans ?_ (by assumption) | refine Below.drew ?_ | refine below_drewN ?_ _ | refine Below.setCell ?_ (by simp <;> omega) _))⟩)
            | false =>
              cases o3 : outB 0 0 0 with
              | true =>
                have HF : Hid (rangeB ⟨vn, true, 0, 0, 0, 0, 0, 0⟩ = true) := show _ = _ from by unfold rangeB; simp [o3]
                go_wp2_with (first | (go_at_call 64; refine (out_any _ _ _ _).mono ?_; rintro e w' ⟨rfl, rfl⟩) | (go_at_call 141; refine (km_any _ _ _).mono ?_; rintro e w' ⟨rfl, hb⟩; obtain ⟨hc, hf⟩ := bcell hb; have hz := hb.size; (try simp at hz)))
                all_goals (exact ⟨rfl, by rw [HL2.out]; simp only [NotEnd, HF.out, if_true], hgB.out _ (by repeat (first | exact Below.refl _ _ | assumption | refine balloc ?_ _ | refine below_trans ?_ (by assumption) | refine Below.drew ?_ | refine below_drewN ?_ _ | refine Below.setCell ?_ (by simp <;> omega) _))⟩)
              | false =>
                cases o4 : kmB 0 0 with
                | true =>
                  have HF : Hid (rangeB ⟨vn, true, 0, 0, 0, 0, 0, 0⟩ = true) := show _ = _ from by unfold rangeB; simp [o4]
                  go_wp2_with (first | (go_at_call 64; refine (out_any _ _ _ _).mono ?_; rintro e w' ⟨rfl, rfl⟩) | (go_at_call 141; refine (km_any _ _ _).mono ?_; rintro e w' ⟨rfl, hb⟩; obtain ⟨hc, hf⟩ := bcell hb; have hz := hb.size; (try simp at hz)))
                  all_goals (exact ⟨rfl, by rw [HL2.out]; simp only [NotEnd, HF.out, if_true], hgB.out _ (by repeat (first | exact Below.refl _ _ | assumption | refine balloc ?_ _ | refine below_trans ?_ (by assumption) | refine Below.drew ?_ | refine below_drewN ?_ _ | refine Below.setCell ?_ (by simp <;> omega) _))⟩)
                | false =>
                  cases o5 : kmB 0 0 with
                  | true =>
                    have HF : Hid (rangeB ⟨vn, true, 0, 0, 0, 0, 0, 0⟩ = true) := show _ = _ from by unfold rangeB; simp [o5]
                    go_wp2_with (first | (go_at_call 64; refine (out_any _ _ _ _).mono ?_; rintro e w' ⟨rfl, rfl⟩) | (go_at_call 141; refine (km_any _ _ _).mono ?_; rintro e w' ⟨rfl, hb⟩; obtain ⟨hc, hf⟩ := bcell hb; have hz := hb.size; (try simp at hz)))
                    all_goals (exact ⟨rfl, by rw [HL2.out]; simp only [NotEnd, HF.out, if_true], hgB.out _ (by repeat (first | exact Below.refl _ _ | assumption | refine balloc ?_ _ | refine below_trans ?_ (by assumption) | refine Below.drew ?_ | refine below_drewN ?_ _ | refine Below.setCell ?_ (by simp <;> omega) _))⟩)
                  | false =>
                    have HF : Hid (rangeB ⟨vn, true, 0, 0, 0, 0, 0, 0⟩ = false) := show _ = _ from by unfold rangeB; simp [o1, o2, o3, o4, o5]
                    have hz0 : Hid (Below wz.heap.size wz wz) := show Below _ _ _ from Below.refl _ _
                    go_upto_region 18 with (first | (go_at_call 64; refine (out_any _ _ _ _).mono ?_; rintro e w' ⟨rfl, rfl⟩) | (go_at_call 141; refine (km_any _ _ _).mono ?_; rintro e w' ⟨rfl, hb⟩; have hz0 := Lib.hid (below_trans hz0.out hb); have HXZ := Lib.hid (HXZ.out.below hb); clear c0 c1 c2 c3 c4 c5 c6 c7 fz; obtain ⟨c0, c1, c2, c3, c4, c5, c6, c7⟩ := cells8 HXZ.out; have fz := HXZ.out.frozen; have hxl : xb < w'.heap.size := HXZ.out.lt))
                    have hgz := Lib.hid (hgB.out _ hz0.out)
                    go_wp2_with fail
                    have hxF := (((((((HXZ.out.set 0 (.int .i64 vn)).set 1 (.bool true)).set 2 (.int .i64 0)).set 3 (.int .i64 0)).set 4 (.int .i64 0)).set 5 (.int .i64 0)).set 6 (.int .i64 0)).set 7 (.int .i64 0)
                    simp only [List.setIfInBounds_toArray, List.set_cons_zero, List.set_cons_succ] at hxF
                    obtain ⟨e0, e1, e2, e3, e4, e5, e6, e7⟩ := cells8 hxF
                    have hgF := grown_setNew (grown_setNew (grown_setNew (grown_setNew (grown_setNew (grown_setNew (grown_setNew (grown_setNew hgz.out (p := ⟨xb, 0, none⟩) HXB.out (.int .i64 vn)) (p := ⟨xb, 1, none⟩) HXB.out (.bool true)) (p := ⟨xb, 2, none⟩) HXB.out (.int .i64 0)) (p := ⟨xb, 3, none⟩) HXB.out (.int .i64 0)) (p := ⟨xb, 4, none⟩) HXB.out (.int .i64 0)) (p := ⟨xb, 5, none⟩) HXB.out (.int .i64 0)) (p := ⟨xb, 6, none⟩) HXB.out (.int .i64 0)) (p := ⟨xb, 7, none⟩) HXB.out (.int .i64 0)
                    refine bodyPost_ret (v := .agg (ntV ⟨vn, true, 0, 0, 0, 0, 0, 0⟩)) (by simp [results, Tryz.results76, go_sem, e0, e1, e2, e3, e4, e5, e6, e7, ntV, ntc]) rfl ⟨by rw [HL2.out]; simp only [NotEnd, HF.out]; rfl, hgF⟩
      · have hmv : mustV wCANCEL [p, q] = none := by simp [mustV, hp]
        rw [hmv] at hm
        unfold MustEnd at hm
        simp only at hm
        subst hm
        have HF : Hid (formV [p, q] = none) := show _ = _ from by rw [HL.out, if_neg hp]
        have HG2 := Lib.hid (HG.out.trans hg)
        clear hmv hp
        go_wp2_with fail
        exact ⟨rfl, by rw [HF.out]; rfl, HG2.out⟩
  · have HL : Hid (formV ws = longV ws) := show _ = _ from formV_long h2
    have hn2 : ¬ ((ws.length : Int) = 2) := by omega
    have hn2' : (((ws.length : Int)) == 2) = false := by simpa using hn2
    have HR := Lib.hid (h.below (Below.refl _ _ |>.alloc (Nat.le_refl _) (.cells zeroN 33)))
    have HX := Lib.hid (cellsNew W zeroN 33)
    have HG : Hid (W.grownBy (W.alloc (.cells zeroN 33)) (some Br)) := World.grownBy_alloc _ _ _
    have HXB := HXB0
    have hbx := hlt
    unfold zeroN ntc at HX HR HG
    clear h h2 HXB0
    go_enter Tryz.func76, Tryz.ntmps76
    go_wp2_with fail
    generalize W.alloc (.cells #[.int .i64 0, .bool false, .int .i64 0, .int .i64 0, .int .i64 0, .int .i64 0, .int .i64 0, .int .i64 0] 33) = W1 at *
    obtain ⟨xb, hxx⟩ : ∃ xb, W.heap.size = xb := ⟨_, rfl⟩
    rw [hxx] at hbx HX
    have HXB : Hid (W.heap.size ≤ xb) := show _ ≤ _ from by omega
    rw [hxx]
    clear hxx hc hf hlc hlt hn2 hn2'
    -- a word that must be wNOTICE (names 1: the step, ws: the list before, r1: after; if_true: facts so far)
    go_wp2_with fail
    (try clear c0 c1 c2 c3 c4 c5 c6 c7 fz HRW)
    refine (must_any Br wNOTICE ws _ HR.out).mono ?_
    rintro e w1 ⟨hm, hg⟩
    cases h1 : mustV wNOTICE ws with
    | none =>
      rw [h1] at hm
      (try unfold MustEnd at hm)
      simp only at hm
      subst hm
      have HF : Hid (formV ws = none) := show _ = _ from by rw [HL.out]; simp only [longV, if_true, h1]
      have HG2 := Lib.hid (HG.out.trans hg)
      clear h1
      go_wp2_with fail
      exact ⟨rfl, by rw [HF.out]; rfl, HG2.out⟩
    | some r1 =>
      rw [h1] at hm
      (try unfold MustEnd at hm)
      simp only at hm
      obtain ⟨rfl, hr⟩ := hm
      have hs : ∀ x ∈ r1, x.length ≤ 8796093022000 := fun x hx => hs x (by rw [mustV_some.1 h1]; simp [hx])
      have H1 := Lib.hid h1
      have HX := Lib.hid (HX.out.grown hg (by omega))
      have HG := Lib.hid (HG.out.trans hg)
      have HR := Lib.hid hr
      clear hg hr h1
      -- a number into the cell 0 (names: 2 step, r1 before, r2 after, H1.out facts, vn: the number's name, #7: the cells behind)
      go_wp2_with fail
      (try clear c0 c1 c2 c3 c4 c5 c6 c7 fz HRW)
      refine (number_any Br r1 _ HR.out hs).mono ?_
      rintro e w2 ⟨hm, hg⟩
      cases h2 : numberV r1 with
      | none =>
        rw [h2] at hm
        unfold RdEnd at hm
        simp only at hm
        subst hm
        have HF : Hid (formV ws = none) := show _ = _ from by rw [HL.out]; simp only [longV, H1.out, h2]
        have HG2 := Lib.hid (HG.out.trans hg)
        clear h2
        go_wp2_with fail
        exact ⟨rfl, by rw [HF.out]; rfl, HG2.out⟩
      | some q =>
        obtain ⟨vn, r2⟩ := q
        rw [h2] at hm
        unfold RdEnd at hm
        simp only at hm
        obtain ⟨rfl, hr⟩ := hm
        have hs : ∀ x ∈ r2, x.length ≤ 8796093022000 := fun x hx => hs x (by obtain ⟨_, e, _⟩ := numberV_some.1 h2; rw [e]; simp [hx])
        have H2 := Lib.hid h2
        have hx := HX.out.grown hg (show xb ≠ Br by omega)
        have HX2 := Lib.hid (hx.set 0 (.int .i64 vn))
        have HG := Lib.hid (grown_setNew (HG.out.trans hg) (p := ⟨xb, 0, none⟩) HXB.out (.int .i64 vn))
        have HR := Lib.hid (hr.setNew (p := ⟨xb, 0, none⟩) (show Br < xb by omega) (.int .i64 vn))
        obtain ⟨c0, c1, c2, c3, c4, c5, c6, c7⟩ := cells8 hx
        have fz := hx.frozen
        simp only [List.setIfInBounds_toArray, List.set_cons_zero, List.set_cons_succ] at HX2
        have HRW := Lib.hid hr
        clear hg hr h2 HX hx
        have HX := HX2
        clear HX2
        -- a word that must be wFROM (names 3: the step, r2: the list before, r3: after; H1.out, H2.out: facts so far)
        go_wp2_with fail
        (try clear c0 c1 c2 c3 c4 c5 c6 c7 fz HRW)
        refine (must_any Br wFROM r2 _ HR.out).mono ?_
        rintro e w3 ⟨hm, hg⟩
        cases h3 : mustV wFROM r2 with
        | none =>
          rw [h3] at hm
          (try unfold MustEnd at hm)
          simp only at hm
          subst hm
          have HF : Hid (formV ws = none) := show _ = _ from by rw [HL.out]; simp only [longV, H1.out, H2.out, h3]
          have HG2 := Lib.hid (HG.out.trans hg)
          clear h3
          go_wp2_with fail
          exact ⟨rfl, by rw [HF.out]; rfl, HG2.out⟩
        | some r3 =>
          rw [h3] at hm
          (try unfold MustEnd at hm)
          simp only at hm
          obtain ⟨rfl, hr⟩ := hm
          have hs : ∀ x ∈ r3, x.length ≤ 8796093022000 := fun x hx => hs x (by rw [mustV_some.1 h3]; simp [hx])
          have H3 := Lib.hid h3
          have HX := Lib.hid (HX.out.grown hg (by omega))
          have HG := Lib.hid (HG.out.trans hg)
          have HR := Lib.hid hr
          clear hg hr h3
          -- a number into the cell 2 (names: 4 step, r3 before, r4 after, H1.out, H2.out, H3.out facts, vf: the number's name, #7: the cells behind)
          go_wp2_with fail
          (try clear c0 c1 c2 c3 c4 c5 c6 c7 fz HRW)
          refine (number_any Br r3 _ HR.out hs).mono ?_
          rintro e w4 ⟨hm, hg⟩
          cases h4 : numberV r3 with
          | none =>
            rw [h4] at hm
            unfold RdEnd at hm
            simp only at hm
            subst hm
            have HF : Hid (formV ws = none) := show _ = _ from by rw [HL.out]; simp only [longV, H1.out, H2.out, H3.out, h4]
            have HG2 := Lib.hid (HG.out.trans hg)
            clear h4
            go_wp2_with fail
            exact ⟨rfl, by rw [HF.out]; rfl, HG2.out⟩
          | some q =>
            obtain ⟨vf, r4⟩ := q
            rw [h4] at hm
            unfold RdEnd at hm
            simp only at hm
            obtain ⟨rfl, hr⟩ := hm
            have hs : ∀ x ∈ r4, x.length ≤ 8796093022000 := fun x hx => hs x (by obtain ⟨_, e, _⟩ := numberV_some.1 h4; rw [e]; simp [hx])
            have H4 := Lib.hid h4
            have hx := HX.out.grown hg (show xb ≠ Br by omega)
            have HX2 := Lib.hid (hx.set 2 (.int .i64 vf))
            have HG := Lib.hid (grown_setNew (HG.out.trans hg) (p := ⟨xb, 2, none⟩) HXB.out (.int .i64 vf))
            have HR := Lib.hid (hr.setNew (p := ⟨xb, 2, none⟩) (show Br < xb by omega) (.int .i64 vf))
            obtain ⟨c0, c1, c2, c3, c4, c5, c6, c7⟩ := cells8 hx
            have fz := hx.frozen
            simp only [List.setIfInBounds_toArray, List.set_cons_zero, List.set_cons_succ] at HX2
            have HRW := Lib.hid hr
            clear hg hr h4 HX hx
            have HX := HX2
            clear HX2
            -- a word that must be wUNTIL (names 5: the step, r4: the list before, r5: after; H1.out, H2.out, H3.out, H4.out: facts so far)
            go_wp2_with fail
            (try clear c0 c1 c2 c3 c4 c5 c6 c7 fz HRW)
            refine (must_any Br wUNTIL r4 _ HR.out).mono ?_
            rintro e w5 ⟨hm, hg⟩
            cases h5 : mustV wUNTIL r4 with
            | none =>
              rw [h5] at hm
              (try unfold MustEnd at hm)
              simp only at hm
              subst hm
              have HF : Hid (formV ws = none) := show _ = _ from by rw [HL.out]; simp only [longV, H1.out, H2.out, H3.out, H4.out, h5]
              have HG2 := Lib.hid (HG.out.trans hg)
              clear h5
              go_wp2_with fail
              exact ⟨rfl, by rw [HF.out]; rfl, HG2.out⟩
            | some r5 =>
              rw [h5] at hm
              (try unfold MustEnd at hm)
              simp only at hm
              obtain ⟨rfl, hr⟩ := hm
              have hs : ∀ x ∈ r5, x.length ≤ 8796093022000 := fun x hx => hs x (by rw [mustV_some.1 h5]; simp [hx])
              have H5 := Lib.hid h5
              have HX := Lib.hid (HX.out.grown hg (by omega))
              have HG := Lib.hid (HG.out.trans hg)
              have HR := Lib.hid hr
              clear hg hr h5
              -- a number into the cell 3 (names: 6 step, r5 before, r6 after, H1.out, H2.out, H3.out, H4.out, H5.out facts, vu: the number's name, #7: the cells behind)
              go_wp2_with fail
              (try clear c0 c1 c2 c3 c4 c5 c6 c7 fz HRW)
              refine (number_any Br r5 _ HR.out hs).mono ?_
              rintro e w6 ⟨hm, hg⟩
              cases h6 : numberV r5 with
              | none =>
                rw [h6] at hm
                unfold RdEnd at hm
                simp only at hm
                subst hm
                have HF : Hid (formV ws = none) := show _ = _ from by rw [HL.out]; simp only [longV, H1.out, H2.out, H3.out, H4.out, H5.out, h6]
                have HG2 := Lib.hid (HG.out.trans hg)
                clear h6
                go_wp2_with fail
                exact ⟨rfl, by rw [HF.out]; rfl, HG2.out⟩
              | some q =>
                obtain ⟨vu, r6⟩ := q
                rw [h6] at hm
                unfold RdEnd at hm
                simp only at hm
                obtain ⟨rfl, hr⟩ := hm
                have hs : ∀ x ∈ r6, x.length ≤ 8796093022000 := fun x hx => hs x (by obtain ⟨_, e, _⟩ := numberV_some.1 h6; rw [e]; simp [hx])
                have H6 := Lib.hid h6
                have hx := HX.out.grown hg (show xb ≠ Br by omega)
                have HX2 := Lib.hid (hx.set 3 (.int .i64 vu))
                have HG := Lib.hid (grown_setNew (HG.out.trans hg) (p := ⟨xb, 3, none⟩) HXB.out (.int .i64 vu))
                have HR := Lib.hid (hr.setNew (p := ⟨xb, 3, none⟩) (show Br < xb by omega) (.int .i64 vu))
                obtain ⟨c0, c1, c2, c3, c4, c5, c6, c7⟩ := cells8 hx
                have fz := hx.frozen
                simp only [List.setIfInBounds_toArray, List.set_cons_zero, List.set_cons_succ] at HX2
                have HRW := Lib.hid hr
                clear hg hr h6 HX hx
                have HX := HX2
                clear HX2
                go_wp2_with fail
                (try clear c0 c1 c2 c3 c4 c5 c6 c7 fz HRW)
                refine (span_any Br wX r6 _ HR.out hs).mono ?_
                rintro e w7 ⟨hm, hg⟩
                cases h7 : spanV wX r6 with
                | none =>
                  rw [h7] at hm
                  unfold SpanEnd at hm
                  simp only at hm
                  subst hm
                  have HF : Hid (formV ws = none) := show _ = _ from by rw [HL.out]; simp only [longV, H1.out, H2.out, H3.out, H4.out, H5.out, H6.out, h7]
                  have HG2 := Lib.hid (HG.out.trans hg)
                  clear h7
                  go_wp2_with fail
                  exact ⟨rfl, by rw [HF.out]; rfl, HG2.out⟩
                | some q =>
                  obtain ⟨⟨xl, xh⟩, r7⟩ := q
                  rw [h7] at hm
                  unfold SpanEnd at hm
                  simp only at hm
                  obtain ⟨rfl, hr⟩ := hm
                  have hs : ∀ x ∈ r7, x.length ≤ 8796093022000 := fun x hx => hs x (by obtain ⟨_, _, e, _⟩ := spanV_some h7; rw [e]; simp [hx])
                  have H7 := Lib.hid h7
                  have hx := HX.out.grown hg (show xb ≠ Br by omega)
                  have HX2 := Lib.hid ((hx.set 4 (.int .i64 xl)).set 5 (.int .i64 xh))
                  have HG := Lib.hid (grown_setNew (grown_setNew (HG.out.trans hg) (p := ⟨xb, 4, none⟩) HXB.out (.int .i64 xl)) (p := ⟨xb, 5, none⟩) HXB.out (.int .i64 xh))
                  have HR := Lib.hid ((hr.setNew (p := ⟨xb, 4, none⟩) (show Br < xb by omega) (.int .i64 xl)).setNew (p := ⟨xb, 5, none⟩) (show Br < xb by omega) (.int .i64 xh))
                  obtain ⟨c0, c1, c2, c3, c4, c5, c6, c7⟩ := cells8 hx
                  have fz := hx.frozen
                  simp only [List.setIfInBounds_toArray, List.set_cons_zero, List.set_cons_succ] at HX2
                  have HRW := Lib.hid hr
                  clear hg hr h7 HX hx
                  have HX := HX2
                  clear HX2
                  go_wp2_with fail
                  (try clear c0 c1 c2 c3 c4 c5 c6 c7 fz HRW)
                  refine (span_any Br wY r7 _ HR.out hs).mono ?_
                  rintro e w8 ⟨hm, hg⟩
                  cases h8 : spanV wY r7 with
                  | none =>
                    rw [h8] at hm
                    unfold SpanEnd at hm
                    simp only at hm
                    subst hm
                    have HF : Hid (formV ws = none) := show _ = _ from by rw [HL.out]; simp only [longV, H1.out, H2.out, H3.out, H4.out, H5.out, H6.out, H7.out, h8]
                    have HG2 := Lib.hid (HG.out.trans hg)
                    clear h8
                    go_wp2_with fail
                    exact ⟨rfl, by rw [HF.out]; rfl, HG2.out⟩
                  | some q =>
                    obtain ⟨⟨yl, yh⟩, r8⟩ := q
                    rw [h8] at hm
                    unfold SpanEnd at hm
                    simp only at hm
                    obtain ⟨rfl, hr⟩ := hm
                    have hs : ∀ x ∈ r8, x.length ≤ 8796093022000 := fun x hx => hs x (by obtain ⟨_, _, e, _⟩ := spanV_some h8; rw [e]; simp [hx])
                    have H8 := Lib.hid h8
                    have hx := HX.out.grown hg (show xb ≠ Br by omega)
                    have HX2 := Lib.hid ((hx.set 6 (.int .i64 yl)).set 7 (.int .i64 yh))
                    have HG := Lib.hid (grown_setNew (grown_setNew (HG.out.trans hg) (p := ⟨xb, 6, none⟩) HXB.out (.int .i64 yl)) (p := ⟨xb, 7, none⟩) HXB.out (.int .i64 yh))
                    have HR := Lib.hid ((hr.setNew (p := ⟨xb, 6, none⟩) (show Br < xb by omega) (.int .i64 yl)).setNew (p := ⟨xb, 7, none⟩) (show Br < xb by omega) (.int .i64 yh))
                    obtain ⟨c0, c1, c2, c3, c4, c5, c6, c7⟩ := cells8 hx
                    have fz := hx.frozen
                    simp only [List.setIfInBounds_toArray, List.set_cons_zero, List.set_cons_succ] at HX2
                    have HRW := Lib.hid hr
                    clear hg hr h8 HX hx
                    have HX := HX2
                    clear HX2
                    cases r8 with
                    | cons p8 q8 =>
                      have HF : Hid (formV ws = none) := show _ = _ from by rw [HL.out]; simp [longV, H1.out, H2.out, H3.out, H4.out, H5.out, H6.out, H7.out, H8.out]
                      have hrw := HR.out
                      go_upto_region 13 with fail
                      clear c0 c1 c2 c3 c4 c5 c6 c7 fz HRW HX
                      generalize (w8.setCell ⟨xb, 6, none⟩ (.int .i64 yl)).setCell ⟨xb, 7, none⟩ (.int .i64 yh) = wz at *
                      obtain ⟨ra, rc, hrc, hrf, hrl, _⟩ := hrw
                      simp only [List.length_cons] at hrc
                      go_wp2_with fail
                      exact ⟨rfl, by rw [HF.out]; rfl, HG.out⟩
                    | nil =>
                      have HL2 : Hid (formV ws = some ⟨vn, false, vf, vu, xl, xh, yl, yh⟩) := show _ = _ from by rw [HL.out]; simp [longV, H1.out, H2.out, H3.out, H4.out, H5.out, H6.out, H7.out, H8.out]
                      go_upto_region 13 with fail
                      clear c0 c1 c2 c3 c4 c5 c6 c7 fz HRW
                      generalize (w8.setCell ⟨xb, 6, none⟩ (.int .i64 yl)).setCell ⟨xb, 7, none⟩ (.int .i64 yh) = wz at *
                      -- the ranges of what was read (⟨vn, false, vf, vu, xl, xh, yl, yh⟩: its fields, as an NT; vn .. yh: n f u xl xh yl yh): no word is left
                      obtain ⟨ra, rc, hrc, hrf, hrl, _⟩ := id HR.out
                      have hgB : Hid (∀ w', Below wz.heap.size wz w' → W.grownBy w' (some Br)) := show ∀ _, _ from fun w' hb => grown_after HR.out.lt HG.out hb
                      have hrlt : Br < wz.heap.size := HR.out.lt
                      have hxl : xb < wz.heap.size := HX.out.lt
                      simp only [List.length_nil] at hrc
                      obtain ⟨c0, c1, c2, c3, c4, c5, c6, c7⟩ := cells8 HX.out
                      have fz := HX.out.frozen
                      have HXZ := HX
                      clear HR HG HX hrl
                      cases o1 : outB vn 1 9999 with
                      | true =>
                        have HF : Hid (rangeB ⟨vn, false, vf, vu, xl, xh, yl, yh⟩ = true) := show _ = _ from by unfold rangeB; simp [o1]
                        go_wp2_with (first | (go_at_call 64; refine (out_any _ _ _ _).mono ?_; rintro e w' ⟨rfl, rfl⟩) | (go_at_call 141; refine (km_any _ _ _).mono ?_; rintro e w' ⟨rfl, hb⟩; obtain ⟨hc, hf⟩ := bcell hb; have hz := hb.size; (try simp at hz)))
                        all_goals (exact ⟨rfl, by rw [HL2.out]; simp only [NotEnd, HF.out, if_true], hgB.out _ (by repeat (first | exact Below.refl _ _ | assumption | refine balloc ?_ _ | refine below_trans ?_ (by assumption) | refine Below.drew ?_ | refine below_drewN ?_ _ | refine Below.setCell ?_ (by simp <;> omega) _))⟩)
                      | false =>
                        cases o2 : outB vu 0 100000 with
                        | true =>
                          have HF : Hid (rangeB ⟨vn, false, vf, vu, xl, xh, yl, yh⟩ = true) := show _ = _ from by unfold rangeB; simp [o2]
                          go_wp2_with (first | (go_at_call 64; refine (out_any _ _ _ _).mono ?_; rintro e w' ⟨rfl, rfl⟩) | (go_at_call 141; refine (km_any _ _ _).mono ?_; rintro e w' ⟨rfl, hb⟩; obtain ⟨hc, hf⟩ := bcell hb; have hz := hb.size; (try simp at hz)))
                          all_goals (exact ⟨rfl, by rw [HL2.out]; simp only [NotEnd, HF.out, if_true], hgB.out _ (by repeat (first | exact Below.refl _ _ | assumption | refine balloc ?_ _ | refine below_trans ?_ (by assumption) | refine Below.drew ?_ | refine below_drewN ?_ _ | refine Below.setCell ?_ (by simp <;> omega) _))⟩)
                        | false =>
                          cases o3 : outB vf 0 vu with
                          | true =>
                            have HF : Hid (rangeB ⟨vn, false, vf, vu, xl, xh, yl, yh⟩ = true) := show _ = _ from by unfold rangeB; simp [o3]
                            go_wp2_with (first | (go_at_call 64; refine (out_any _ _ _ _).mono ?_; rintro e w' ⟨rfl, rfl⟩) | (go_at_call 141; refine (km_any _ _ _).mono ?_; rintro e w' ⟨rfl, hb⟩; obtain ⟨hc, hf⟩ := bcell hb; have hz := hb.size; (try simp at hz)))
                            all_goals (exact ⟨rfl, by rw [HL2.out]; simp only [NotEnd, HF.out, if_true], hgB.out _ (by repeat (first | exact Below.refl _ _ | assumption | refine balloc ?_ _ | refine below_trans ?_ (by assumption) | refine Below.drew ?_ | refine below_drewN ?_ _ | refine Below.setCell ?_ (by simp <;> omega) _))⟩)
                          | false =>
                            cases o4 : kmB xl xh with
                            | true =>
                              have HF : Hid (rangeB ⟨vn, false, vf, vu, xl, xh, yl, yh⟩ = true) := show _ = _ from by unfold rangeB; simp [o4]
                              go_wp2_with (first | (go_at_call 64; refine (out_any _ _ _ _).mono ?_; rintro e w' ⟨rfl, rfl⟩) | (go_at_call 141; refine (km_any _ _ _).mono ?_; rintro e w' ⟨rfl, hb⟩; obtain ⟨hc, hf⟩ := bcell hb; have hz := hb.size; (try simp at hz)))
                              all_goals (exact ⟨rfl, by rw [HL2.out]; simp only [NotEnd, HF.out, if_true], hgB.out _ (by repeat (first | exact Below.refl _ _ | assumption | refine balloc ?_ _ | refine below_trans ?_ (by assumption) | refine Below.drew ?_ | refine below_drewN ?_ _ | refine Below.setCell ?_ (by simp <;> omega) _))⟩)
                            | false =>
                              cases o5 : kmB yl yh with
                              | true =>
                                have HF : Hid (rangeB ⟨vn, false, vf, vu, xl, xh, yl, yh⟩ = true) := show _ = _ from by unfold rangeB; simp [o5]
                                go_wp2_with (first | (go_at_call 64; refine (out_any _ _ _ _).mono ?_; rintro e w' ⟨rfl, rfl⟩) | (go_at_call 141; refine (km_any _ _ _).mono ?_; rintro e w' ⟨rfl, hb⟩; obtain ⟨hc, hf⟩ := bcell hb; have hz := hb.size; (try simp at hz)))
                                all_goals (exact ⟨rfl, by rw [HL2.out]; simp only [NotEnd, HF.out, if_true], hgB.out _ (by repeat (first | exact Below.refl _ _ | assumption | refine balloc ?_ _ | refine below_trans ?_ (by assumption) | refine Below.drew ?_ | refine below_drewN ?_ _ | refine Below.setCell ?_ (by simp <;> omega) _))⟩)
                              | false =>
                                have HF : Hid (rangeB ⟨vn, false, vf, vu, xl, xh, yl, yh⟩ = false) := show _ = _ from by unfold rangeB; simp [o1, o2, o3, o4, o5]
                                have hz0 : Hid (Below wz.heap.size wz wz) := show Below _ _ _ from Below.refl _ _
                                go_upto_region 18 with (first | (go_at_call 64; refine (out_any _ _ _ _).mono ?_; rintro e w' ⟨rfl, rfl⟩) | (go_at_call 141; refine (km_any _ _ _).mono ?_; rintro e w' ⟨rfl, hb⟩; have hz0 := Lib.hid (below_trans hz0.out hb); have HXZ := Lib.hid (HXZ.out.below hb); clear c0 c1 c2 c3 c4 c5 c6 c7 fz; obtain ⟨c0, c1, c2, c3, c4, c5, c6, c7⟩ := cells8 HXZ.out; have fz := HXZ.out.frozen; have hxl : xb < w'.heap.size := HXZ.out.lt))
                                have hgz := Lib.hid (hgB.out _ hz0.out)
                                go_wp2_with fail
                                have hxF := (((((((HXZ.out.set 0 (.int .i64 vn)).set 1 (.bool false)).set 2 (.int .i64 vf)).set 3 (.int .i64 vu)).set 4 (.int .i64 xl)).set 5 (.int .i64 xh)).set 6 (.int .i64 yl)).set 7 (.int .i64 yh)
                                simp only [List.setIfInBounds_toArray, List.set_cons_zero, List.set_cons_succ] at hxF
                                obtain ⟨e0, e1, e2, e3, e4, e5, e6, e7⟩ := cells8 hxF
                                have hgF := grown_setNew (grown_setNew (grown_setNew (grown_setNew (grown_setNew (grown_setNew (grown_setNew (grown_setNew hgz.out (p := ⟨xb, 0, none⟩) HXB.out (.int .i64 vn)) (p := ⟨xb, 1, none⟩) HXB.out (.bool false)) (p := ⟨xb, 2, none⟩) HXB.out (.int .i64 vf)) (p := ⟨xb, 3, none⟩) HXB.out (.int .i64 vu)) (p := ⟨xb, 4, none⟩) HXB.out (.int .i64 xl)) (p := ⟨xb, 5, none⟩) HXB.out (.int .i64 xh)) (p := ⟨xb, 6, none⟩) HXB.out (.int .i64 yl)) (p := ⟨xb, 7, none⟩) HXB.out (.int .i64 yh)
                                refine bodyPost_ret (v := .agg (ntV ⟨vn, false, vf, vu, xl, xh, yl, yh⟩)) (by simp [results, Tryz.results76, go_sem, e0, e1, e2, e3, e4, e5, e6, e7, ntV, ntc]) rfl ⟨by rw [HL2.out]; simp only [NotEnd, HF.out]; rfl, hgF⟩
end Go.Proofs.YtmglbegbijofkaaGreatDoor
namespace Go.Proofs.YtmglbegbijofkaaGreatDoor
open Go.RowKit Go.Maps Go.Sort Go.Shelf
theorem words_bound : ∀ (s : List UInt8), ∀ w ∈ wordsL s, w.length ≤ s.length
  | [], w, h => by simp [wordsL] at h; subst h; simp
  | c :: s, w, h => by
    have ih := words_bound s
    by_cases hc : c = 32
    · simp only [wordsL, if_pos hc] at h
      rcases List.mem_cons.1 h with rfl | h
      · simp
      · have := ih w h; simp; omega
    · simp only [wordsL, if_neg hc] at h
      cases hw : wordsL s with
      | nil => exact absurd hw (wordsL_ne s)
      | cons a l =>
        rw [hw] at h ih
        simp only at h
        rcases List.mem_cons.1 h with rfl | h
        · have := ih a (by simp); simp; omega
        · have := ih w (by simp [h]); simp; omega
def ParseEnd (x : NT) (k : Int) : Ending := .returned (.tuple #[.agg (ntV x), .int .i64 k])
set_option maxRecDepth 100000 in
set_option maxHeartbeats 2000000 in
theorem parse_any (s : List UInt8) (hs : s.length ≤ 8796093022000) (w : World) :
    Calls Tryz.prog 22 #[.string ⟨s.toArray⟩] w fun e w' => e = ParseEnd (parseN s) (parseE s) ∧ Below w.heap.size w w' := by
  have hmf : ∀ (fn : Fn) (first cap : Array Value) (w : World), (Instr.makeFunc fn first cap).run Tryz.prog w = .ok (.func fn first cap) w := fun _ _ _ _ => rfl
  have HSZ : Hid (∀ x ∈ wordsL s, x.length ≤ 8796093022000) := show ∀ _ _, _ from fun x hx => Nat.le_trans (words_bound s x hx) hs
  have HNE := Lib.hid (wordsL_ne s)
  generalize hPN : parseN s = pn
  generalize hPE : parseE s = pe
  have HPN := Lib.hid hPN
  have HPE := Lib.hid hPE
  clear hPN hPE
  go_enter_defers Tryz.func22, Tryz.ntmps22
  go_wp2_with fail
  refine (words_any _ _).mono ?_
  rintro e w1 ⟨rfl, rfl⟩
  go_wp2_with fail
  have hB0 : Below w.heap.size w (((w.alloc (.cells (ntc 0 false 0 0 0 0 0 0) 33)).alloc (.cells #[.int .i64 0] 29)).alloc (.cells #[.string ⟨s.toArray⟩] 9)) := (by repeat (first | exact Below.refl _ _ | assumption | refine balloc ?_ _ | refine below_trans ?_ (by assumption) | refine Below.drew ?_ | refine below_drewN ?_ _ | refine Below.setCell ?_ (by simp <;> omega) _))
  have hx0 : cellsAt (((w.alloc (.cells (ntc 0 false 0 0 0 0 0 0) 33)).alloc (.cells #[.int .i64 0] 29)).alloc (.cells #[.string ⟨s.toArray⟩] 9)) w.heap.size 33 zeroN :=
    (Below.heap_alloc _ _ _ (by simp; omega)).trans ((Below.heap_alloc _ _ _ (by simp)).trans (World.alloc_heap_new w _))
  have he0 : cellsAt (((w.alloc (.cells (ntc 0 false 0 0 0 0 0 0) 33)).alloc (.cells #[.int .i64 0] 29)).alloc (.cells #[.string ⟨s.toArray⟩] 9)) (w.heap.size + 1) 29 #[.int .i64 0] := by
    have h1 := World.alloc_heap_new (w.alloc (.cells (ntc 0 false 0 0 0 0 0 0) 33)) (.cells #[.int .i64 0] 29)
    rw [World.size_alloc] at h1
    exact (Below.heap_alloc _ _ _ (by simp)).trans h1
  have hs0 : (((w.alloc (.cells (ntc 0 false 0 0 0 0 0 0) 33)).alloc (.cells #[.int .i64 0] 29)).alloc (.cells #[.string ⟨s.toArray⟩] 9)).heap[w.heap.size + 1 + 1]? = some (.cells #[.string ⟨s.toArray⟩] 9 (0, 0)) := by
    have h1 := World.alloc_heap_new ((w.alloc (.cells (ntc 0 false 0 0 0 0 0 0) 33)).alloc (.cells #[.int .i64 0] 29)) (.cells #[.string ⟨s.toArray⟩] 9)
    rw [World.size_alloc, World.size_alloc] at h1
    exact h1
  have hz0 : (((w.alloc (.cells (ntc 0 false 0 0 0 0 0 0) 33)).alloc (.cells #[.int .i64 0] 29)).alloc (.cells #[.string ⟨s.toArray⟩] 9)).heap.size = w.heap.size + 3 := by simp
  unfold ntc at hB0 hx0 he0 hs0 hz0
  have HX0 := Lib.hid hx0
  have HE0 := Lib.hid he0
  have HS0 := Lib.hid hs0
  have HZ0 := Lib.hid hz0
  clear hx0 he0 hs0 hz0
  generalize ((w.alloc (.cells #[.int .i64 0, .bool false, .int .i64 0, .int .i64 0, .int .i64 0, .int .i64 0, .int .i64 0, .int .i64 0] 33)).alloc (.cells #[.int .i64 0] 29)).alloc (.cells #[.string ⟨s.toArray⟩] 9) = W0 at *
  refine (collect_words cutSp (w.heap.size + 1 + 1) s hs W0 HS0.out).mono ?_
  rintro e w2 ⟨v, rfl, hrow, hb⟩
  have HNP : Hid (parseN s = (match formV (wordsL s) with | none => zeroNT | some x => if rangeB x then zeroNT else x)) := show _ = _ from rfl
  have HEP : Hid (parseE s = (match formV (wordsL s) with | none => 6 | some x => if rangeB x then 7 else 0)) := show _ = _ from rfl
  generalize wordsL s = ws at *
  have hwl : 0 < ws.length := List.length_pos_iff.2 HNE.out
  obtain ⟨g, cap, cur, rfl, hg1, hg2, hg3, hg4, hg5, hg6⟩ : ∃ g cap cur, v = .slice (some ⟨g, 0, none⟩) ws.length cap ∧ w.heap.size + 1 + 1 + 1 ≤ g ∧ w2.heap[g]? = some (.cells cur 9 (0, 0)) ∧ ws.length ≤ cap ∧ cap ≤ maxLen ∧ cur.size = cap * 1 ∧ cur.toList.take (ws.length * 1) = ws.map encStr := by
    rcases hrow.2 with ⟨_, h0⟩ | h'
    · exact absurd h0 (by simpa using HNE.out)
    · simpa using h'
  have hglt : g < w2.heap.size := (Array.getElem?_eq_some_iff.1 hg2).1
  have hgc : ∀ i, i < ws.length → w2.cell? ⟨g, i, none⟩ = some (encStr (ws[i]?.getD [])) := fun i hi => by
    have h1 : (ws.map encStr)[i]? = some (encStr (ws[i]?.getD [])) := by simp [hi]
    rw [← hg6, List.getElem?_take_of_lt (by omega), Array.getElem?_toList] at h1
    simp [World.cell?, hg2, h1]
  have hz2 : w.heap.size + 3 ≤ w2.heap.size := by have := hb.size; rw [HZ0.out] at this; omega
  have hx2 : cellsAt w2 w.heap.size 33 zeroN := (hb.block _ (by omega)).trans HX0.out
  have he2 : cellsAt w2 (w.heap.size + 1) 29 #[.int .i64 0] := (hb.block _ (by omega)).trans HE0.out
  have hB2 : Below w.heap.size w w2 := hB0.trans (hb.mono (by omega))
  have hrd : RdAt (w2.alloc (.cells #[.slice (some ⟨g, 0, none⟩) ws.length cap] 141)) w2.heap.size ws := by
    obtain ⟨hc1, hf1⟩ := cell_of_box_a (World.alloc_heap_new w2 (.cells #[.slice (some ⟨g, 0, none⟩) ws.length cap] 141))
    refine ⟨_, cap, hc1, hf1, hg3, .inr ⟨g, 0, rfl, hglt, fun i hi => ?_⟩⟩
    have := ((balloc (Below.refl _ w2) (.cells #[.slice (some ⟨g, 0, none⟩) ws.length cap] 141)).cell (p := ⟨g, i, none⟩) hglt).trans (hgc i hi)
    simpa using this
  have HRD := Lib.hid hrd
  have HX2 := Lib.hid hx2
  have HE2 := Lib.hid he2
  clear hrd hx2 he2 hrow hg6 hg5 hg2 hgc
  go_wp2_with fail
  refine (noticeR_any w2.heap.size ws _ HRD.out HSZ.out).mono ?_
  rintro e w3 ⟨hne, hg3⟩
  have hx3 : cellsAt w3 w.heap.size 33 zeroN := (hg3.block _ (by simp; omega) (ne_some (by omega))).trans ((Below.heap_alloc _ _ _ (by omega)).trans HX2.out)
  have he3 : cellsAt w3 (w.heap.size + 1) 29 #[.int .i64 0] := (hg3.block _ (by simp; omega) (ne_some (by omega))).trans ((Below.heap_alloc _ _ _ (by omega)).trans HE2.out)
  have hB3 : Below w.heap.size w w3 := (balloc hB2 _).grown hg3 (by simp; omega) (fun k e => by cases e; omega)
  unfold NotEnd at hne
  have hcase : (∃ k, e = .panicked (errP k) ∧ pe = k ∧ pn = zeroNT) ∨ (∃ x, e = .returned (.agg (ntV x)) ∧ pe = 0 ∧ pn = x) := by
    rw [← HPN.out, ← HPE.out]
    cases hf : formV ws with
    | none => exact .inl ⟨6, by rw [hne, hf], by rw [HEP.out, hf], by rw [HNP.out, hf]⟩
    | some x =>
      cases hr : rangeB x with
      | true => exact .inl ⟨7, by rw [hne, hf]; simp [hr], by rw [HEP.out, hf]; simp [hr], by rw [HNP.out, hf]; simp [hr]⟩
      | false => exact .inr ⟨x, by rw [hne, hf]; simp [hr], by rw [HEP.out, hf]; simp [hr], by rw [HNP.out, hf]; simp [hr]⟩
  clear HPN HPE HEP HNP
  rcases hcase with ⟨k, rfl, rfl, rfl⟩ | ⟨x, rfl, rfl, rfl⟩
  · skip
    have HX3 := Lib.hid hx3
    have HE3 := Lib.hid he3
    clear hx3 he3 hne
    go_wp2_with fail
    refine leaves_cons (f := 73) (args := #[.pointer (some ⟨w.heap.size, 0, none⟩), .pointer (some ⟨w.heap.size + 1, 0, none⟩)]) (by simp) (by simp [go_sem]) ?_
    refine (catch_panic w.heap.size w.heap.size (w.heap.size + 1) (Nat.le_refl _) (by omega) pe 0 0 false 0 0 0 0 0 0 [] w3 (by omega) HX3.out HE3.out).mono ?_
    rintro e u' w4 ⟨rfl, rfl, hx4, he4, hB4⟩
    have d0 := hx4.cell 0
    have d1 := hx4.cell 1
    have d2 := hx4.cell 2
    have d3 := hx4.cell 3
    have d4 := hx4.cell 4
    have d5 := hx4.cell 5
    have d6 := hx4.cell 6
    have d7 := hx4.cell 7
    have de := he4.cell 0
    simp [zeroN, ntc] at d0 d1 d2 d3 d4 d5 d6 d7 de
    simp [Leaves, settle, results, Tryz.results22, go_sem, d0, d1, d2, d3, d4, d5, d6, d7, de]
    exact ⟨rfl, hB3.trans hB4⟩
  · have HX3 := Lib.hid hx3
    have HE3 := Lib.hid he3
    have HB3 := Lib.hid hB3
    unfold zeroN ntc at hx3
    obtain ⟨c0, c1, c2, c3, c4, c5, c6, c7⟩ := cells8 hx3
    have cz := hx3.frozen
    have ce := he3.cell 0
    have cf := he3.frozen 0
    clear hx3 he3 hne
    unfold ntV ntc
    go_wp2_with fail
    have hx3 := HX3.out
    unfold zeroN ntc at hx3
    have hbe : w.heap.size + 1 ≠ w.heap.size := by omega
    have y1 := ((((((((hx3.set 0 (.int .i64 pn.n)).set 1 (.bool pn.c)).set 2 (.int .i64 pn.f)).set 3 (.int .i64 pn.u)).set 4 (.int .i64 pn.xl)).set 5 (.int .i64 pn.xh)).set 6 (.int .i64 pn.yl)).set 7 (.int .i64 pn.yh)).set_other (p := ⟨w.heap.size + 1, 0, none⟩) (fun e => hbe e) (.int .i64 0)
    have y2 := ((((((((HE3.out.set_other (p := ⟨w.heap.size, 0, none⟩) (fun e => hbe e.symm) (.int .i64 pn.n)).set_other (p := ⟨w.heap.size, 1, none⟩) (fun e => hbe e.symm) (.bool pn.c)).set_other (p := ⟨w.heap.size, 2, none⟩) (fun e => hbe e.symm) (.int .i64 pn.f)).set_other (p := ⟨w.heap.size, 3, none⟩) (fun e => hbe e.symm) (.int .i64 pn.u)).set_other (p := ⟨w.heap.size, 4, none⟩) (fun e => hbe e.symm) (.int .i64 pn.xl)).set_other (p := ⟨w.heap.size, 5, none⟩) (fun e => hbe e.symm) (.int .i64 pn.xh)).set_other (p := ⟨w.heap.size, 6, none⟩) (fun e => hbe e.symm) (.int .i64 pn.yl)).set_other (p := ⟨w.heap.size, 7, none⟩) (fun e => hbe e.symm) (.int .i64 pn.yh)).set 0 (.int .i64 0)
    simp only [List.setIfInBounds_toArray, List.set_cons_zero, List.set_cons_succ] at y1 y2
    have hBF := ((((((((HB3.out.setCell (p := ⟨w.heap.size, 0, none⟩) (Nat.le_refl _) (.int .i64 pn.n)).setCell (p := ⟨w.heap.size, 1, none⟩) (Nat.le_refl _) (.bool pn.c)).setCell (p := ⟨w.heap.size, 2, none⟩) (Nat.le_refl _) (.int .i64 pn.f)).setCell (p := ⟨w.heap.size, 3, none⟩) (Nat.le_refl _) (.int .i64 pn.u)).setCell (p := ⟨w.heap.size, 4, none⟩) (Nat.le_refl _) (.int .i64 pn.xl)).setCell (p := ⟨w.heap.size, 5, none⟩) (Nat.le_refl _) (.int .i64 pn.xh)).setCell (p := ⟨w.heap.size, 6, none⟩) (Nat.le_refl _) (.int .i64 pn.yl)).setCell (p := ⟨w.heap.size, 7, none⟩) (Nat.le_refl _) (.int .i64 pn.yh)).setCell (p := ⟨w.heap.size + 1, 0, none⟩) (Nat.le_succ _) (.int .i64 0)
    clear c0 c1 c2 c3 c4 c5 c6 c7 cz ce cf
    refine leaves_cons (f := 73) (args := #[.pointer (some ⟨w.heap.size, 0, none⟩), .pointer (some ⟨w.heap.size + 1, 0, none⟩)]) (by simp) (by simp [go_sem]) ?_
    generalize (((((((((w3.setCell ⟨w.heap.size, 0, none⟩ (.int .i64 pn.n)).setCell ⟨w.heap.size, 1, none⟩ (.bool pn.c)).setCell ⟨w.heap.size, 2, none⟩ (.int .i64 pn.f)).setCell ⟨w.heap.size, 3, none⟩ (.int .i64 pn.u)).setCell ⟨w.heap.size, 4, none⟩ (.int .i64 pn.xl)).setCell ⟨w.heap.size, 5, none⟩ (.int .i64 pn.xh)).setCell ⟨w.heap.size, 6, none⟩ (.int .i64 pn.yl)).setCell ⟨w.heap.size, 7, none⟩ (.int .i64 pn.yh)).setCell ⟨w.heap.size + 1, 0, none⟩ (.int .i64 0)) = wz at *
    refine (catch_none w.heap.size (w.heap.size + 1) wz).mono ?_
    rintro e u' w4 ⟨rfl, rfl, rfl⟩
    have d0 := y1.cell 0
    have d1 := y1.cell 1
    have d2 := y1.cell 2
    have d3 := y1.cell 3
    have d4 := y1.cell 4
    have d5 := y1.cell 5
    have d6 := y1.cell 6
    have d7 := y1.cell 7
    have de := y2.cell 0
    simp at d0 d1 d2 d3 d4 d5 d6 d7 de
    simp [Leaves, settle, results, Tryz.results22, go_sem, d0, d1, d2, d3, d4, d5, d6, d7, de]
    exact ⟨rfl, hBF⟩
end Go.Proofs.YtmglbegbijofkaaGreatDoor
/- SortFunc of notices by their numbers. -/
namespace Go.Proofs.YtmglbegbijofkaaGreatDoor
open Go.RowKit Go.Shelf Go.Sort
instance : Inhabited NT := ⟨zeroNT⟩
def encN (x : NT) : List Value := [.int .i64 x.n, .bool x.c, .int .i64 x.f, .int .i64 x.u, .int .i64 x.xl, .int .i64 x.xh, .int .i64 x.yl, .int .i64 x.yh]
def cfN (x y : NT) : Int := Lib.compareInt x.n y.n
set_option maxHeartbeats 400000 in
theorem chosen1_any (x y : NT) (W : World) : Calls Tryz.prog 165 #[.agg (encN x).toArray, .agg (encN y).toArray] W fun e w' => e = .returned (.int .i64 (cfN x y)) ∧ ∃ q os', w' = grow (W.drewN q) os' := by
  have hcon := fun W' => Tryz.cmp_Compare_int x.n y.n W'
  unfold cfN encN
  generalize Lib.compareInt x.n y.n = r at hcon ⊢
  have HC := Lib.hid hcon
  clear hcon
  go_enter Tryz.func165, Tryz.ntmps165
  go_wp2_with (go_at_call 84; refine (HC.out _).mono ?_; rintro e w' ⟨rfl, rfl⟩)
  go_ret
  exact ⟨rfl, 0, _, by rw [alloc_eq_grow, alloc_eq_grow, grow_grow]; rfl⟩
theorem ltOf_cfN (x y : NT) : ltOf cfN x y = decide (x.n < y.n) := by
  unfold ltOf cfN Lib.compareInt
  by_cases h : x.n < y.n
  · simp [h]
  · by_cases h2 : x.n > y.n
    · simp [h, h2]
    · simp [h, h2]
theorem swo_cfN : SWO (ltOf cfN) :=
  ⟨fun x => by rw [ltOf_cfN]; simp, fun x y z h1 h2 => by rw [ltOf_cfN] at *; simp at *; omega, fun x y z h1 h2 => by rw [ltOf_cfN] at *; simp at *; omega⟩
theorem sortNotices_any (blk off cap : Nat) (d : Array NT) (w : World) (hH : HoldsK encN 8 w blk off d) (hblk : blk < w.heap.size) (hsz : d.size < 4611686018427387904) :
    Calls Tryz.prog 164 #[.slice (some ⟨blk, off, none⟩) d.size cap, .func (.func 165) #[] #[]] w fun e w' => e = .returned (.tuple #[]) ∧ ∃ d' n os, PermIn 0 d.size d d' ∧ SortedIn (ltOf cfN) 0 d.size d' ∧ w' = sortWorldK encN 8 w blk off n d' os := by
  have eg : ∀ args w, (callFunc 165 args).run Tryz.prog w = .ok (.enter 165 args) w := enters_of Tryz.func165 (by kernel_rfl) rfl
  have hcon := AnyQ.slices_SortFunc Tryz.sortNotices 8 (fun _ => by kernel_rfl) (fun _ => by kernel_rfl) encN (fun _ => rfl) (fun x v hv => by simp [encN] at hv; rcases hv with rfl | rfl | rfl | rfl | rfl | rfl | rfl | rfl <;> rfl) cfN swo_cfN 165 #[] blk off cap d w eg (fun _ _ _ _ x y => chosen1_any x y _) hH hblk hsz
  exact hcon
/-- the cells of a row of notices -/
def ntF (ss : List NT) (i : Nat) : Value := (encN (ss[i / 8]?.getD zeroNT))[i % 8]?.getD undef
abbrev NtsAt (w : World) (v : Value) (ss : List NT) : Prop := RowAt w v ss.length 8 (ntF ss)
theorem sortNotices_list (g cap : Nat) (ps : List NT) (w : World) (hg : g < w.heap.size) (hf : ∀ i, i < ps.length * 8 → w.frozen? ⟨g, i, none⟩ = false) (hc : ∀ i, i < ps.length * 8 → w.cell? ⟨g, i, none⟩ = some (ntF ps i)) (hsz : ps.length < 4611686018427387904) :
    Calls Tryz.prog 164 #[.slice (some ⟨g, 0, none⟩) ps.length cap, .func (.func 165) #[] #[]] w fun e w' => e = .returned (.tuple #[]) ∧ w.grownBy w' (some g) ∧ ∃ qs : List NT, qs.Perm ps ∧ qs.Pairwise (fun x y => x.n ≤ y.n) ∧ ∀ i, i < ps.length * 8 → w'.cell? ⟨g, i, none⟩ = some (ntF qs i) := by
  have hsp : ∀ (qs : List NT) i, i < qs.length * 8 → (flatK encN 8 qs.toArray)[i]! = ntF qs i := fun qs i hi => by
    rw [get_flatK _ _ _ _ (by simpa using hi)]
    have h2 : i / 8 < qs.length := by omega
    have h3 : i % 8 < 8 := Nat.mod_lt _ (by omega)
    unfold ntF
    have h4 : (encN qs[i / 8]).length = 8 := rfl
    simp [h2, h4, h3]
  have hH : HoldsK encN 8 w g 0 ps.toArray := fun j hj => by
    have hj' : j < ps.length * 8 := by simpa using hj
    rw [Nat.zero_add, hsp ps j hj']
    exact ⟨hc j hj', hf j hj'⟩
  have hcon := sortNotices_any g 0 cap ps.toArray w hH hg (by simpa using hsz)
  simp only [List.size_toArray] at hcon
  refine hcon.mono fun e w' ⟨he, d', n, os, hp, hs, hw⟩ => ⟨he, ?_, d'.toList, ?_, ?_, ?_⟩
  · rw [hw]; exact sw_grown id w g 0 n (flatK encN 8 d') os
  · have := hp.2.2
    simpa [Array.extract_eq_self_of_le, hp.1] using this
  · rw [List.pairwise_iff_getElem]
    intro i j hi hj hij
    have hz : d'.size = ps.length := by simpa using hp.1
    have h1 := hs i j (Nat.zero_le _) hij (by simpa [hz] using hj)
    rw [ltOf_cfN] at h1
    simp only [decide_eq_false_iff_not] at h1
    rw [getElem!_pos _ i (by simpa using hi), getElem!_pos _ j (by simpa using hj)] at h1
    simpa using h1
  · intro i hi
    have hz : d'.size = ps.length := by simpa using hp.1
    have hHs : HoldsK encN 8 w' g 0 d' := by rw [hw]; exact holds_sortWorld id w g 0 n _ _ os hg hH (by simp [hz])
    have h1 := (hHs i (by simpa [hz] using hi)).1
    rw [Nat.zero_add] at h1
    rw [h1]
    have := hsp d'.toList i (by simpa [hz] using hi)
    simpa using this
end Go.Proofs.YtmglbegbijofkaaGreatDoor
/- The closures of hazard.Covers. -/
namespace Go.Proofs.YtmglbegbijofkaaGreatDoor
open Go.RowKit
def overB (kl kh ml mh : Int) : Bool := decide (1000000 * kl ≤ ml) && decide (mh ≤ 1000000 * kh)
def covB (x : Impact) (n : NT) : Bool := decide (n.f ≤ x.tl) && decide (x.th ≤ n.u) && overB n.xl n.xh x.xl x.xh && overB n.yl n.yh x.yl x.yh
set_option maxRecDepth 100000 in
set_option maxHeartbeats 800000 in
theorem over118 (a b c d : Int) (w : World) (h1 : -3000 ≤ a) (h2 : a ≤ 3000) (h3 : -3000 ≤ b) (h4 : b ≤ 3000) : Calls Tryz.prog 118 #[.agg #[.int .i64 a, .int .i64 b], .agg #[.int .i64 c, .int .i64 d]] w fun e w' => e = .returned (.bool (overB a b c d)) ∧ Below w.heap.size w w' := by
  have u1 := IntWalk.i64_in (a * 1000000) ⟨by omega, by omega⟩
  have u2 := IntWalk.i64_in (b * 1000000) ⟨by omega, by omega⟩
  have HE : Hid (overB a b c d = (decide (a * 1000000 ≤ c) && decide (d ≤ b * 1000000))) := show _ = _ from by unfold overB; rw [Int.mul_comm 1000000 a, Int.mul_comm 1000000 b]
  by_cases q1 : a * 1000000 ≤ c
  · by_cases q2 : d ≤ b * 1000000
    all_goals
      go_enter Tryz.func118, Tryz.ntmps118
      go_wp2_with fail
      go_ret
      exact ⟨ret_bool (by rw [HE.out]; simp [*] <;> omega), (by repeat (first | exact Below.refl _ _ | assumption | refine balloc ?_ _ | refine below_trans ?_ (by assumption) | refine Below.drew ?_ | refine below_drewN ?_ _ | refine Below.setCell ?_ (by simp <;> omega) _))⟩
  · go_enter Tryz.func118, Tryz.ntmps118
    go_wp2_with fail
    go_ret
    exact ⟨ret_bool (by rw [HE.out]; simp [*] <;> omega), (by repeat (first | exact Below.refl _ _ | assumption | refine balloc ?_ _ | refine below_trans ?_ (by assumption) | refine Below.drew ?_ | refine below_drewN ?_ _ | refine Below.setCell ?_ (by simp <;> omega) _))⟩
theorem cells7y {W : World} {b : Nat} {t : TypeId} {a0 a1 a2 a3 a4 a5 a6 : Value} (h : cellsAt W b t #[a0, a1, a2, a3, a4, a5, a6]) : W.cell? ⟨b, 0, none⟩ = some a0 ∧ W.cell? ⟨b, 1, none⟩ = some a1 ∧ W.cell? ⟨b, 2, none⟩ = some a2 ∧ W.cell? ⟨b, 3, none⟩ = some a3 ∧ W.cell? ⟨b, 4, none⟩ = some a4 ∧ W.cell? ⟨b, 5, none⟩ = some a5 ∧ W.cell? ⟨b, 6, none⟩ = some a6 :=
  ⟨h.cell 0, h.cell 1, h.cell 2, h.cell 3, h.cell 4, h.cell 5, h.cell 6⟩
set_option maxRecDepth 100000 in
set_option maxHeartbeats 800000 in
theorem cov120 (x : Impact) (n : NT) (hn : (-3000 ≤ n.xl ∧ n.xl ≤ 3000) ∧ (-3000 ≤ n.xh ∧ n.xh ≤ 3000) ∧ (-3000 ≤ n.yl ∧ n.yl ≤ 3000) ∧ -3000 ≤ n.yh ∧ n.yh ≤ 3000) (xb ob : Nat) (w : World) (hx : cellsAt w xb 27 #[.int .i64 x.p, .int .i64 x.xl, .int .i64 x.xh, .int .i64 x.yl, .int .i64 x.yh, .int .i64 x.tl, .int .i64 x.th]) (ho : w.cell? ⟨ob, 0, none⟩ = some (.func (.func 118) #[] #[])) :
    Calls Tryz.prog 120 #[.agg #[.int .i64 n.n, .bool n.c, .int .i64 n.f, .int .i64 n.u, .int .i64 n.xl, .int .i64 n.xh, .int .i64 n.yl, .int .i64 n.yh], .pointer (some ⟨xb, 0, none⟩), .pointer (some ⟨ob, 0, none⟩)] w fun e w' => e = .returned (.bool (covB x n)) ∧ Below w.heap.size w w' := by
  obtain ⟨⟨k0, k1⟩, ⟨k2, k3⟩, ⟨k4, k5⟩, k6, k7⟩ := hn
  have HO1 := Lib.hid (fun W => over118 n.xl n.xh x.xl x.xh W (by omega) (by omega) (by omega) (by omega))
  have HO2 := Lib.hid (fun W => over118 n.yl n.yh x.yl x.yh W (by omega) (by omega) (by omega) (by omega))
  have HE : Hid (covB x n = (decide (n.f ≤ x.tl) && decide (x.th ≤ n.u) && overB n.xl n.xh x.xl x.xh && overB n.yl n.yh x.yl x.yh)) := show _ = _ from rfl
  have hxl := hx.lt
  have hol := World.block_lt_of_cell? _ _ ho
  generalize covB x n = CB at *
  generalize hr1 : overB n.xl n.xh x.xl x.xh = r1 at *
  generalize hr2 : overB n.yl n.yh x.yl x.yh = r2 at *
  clear hr1 hr2 k0 k1 k2 k3 k4 k5 k6 k7
  obtain ⟨nn, nc, nf, nu, nxl, nxh, nyl, nyh⟩ := n
  obtain ⟨xp, xxl, xxh, xyl, xyh, xtl, xth⟩ := x
  simp only at hx HO1 HO2 HE
  have hN := cellsNew w #[.int .i64 nn, .bool nc, .int .i64 nf, .int .i64 nu, .int .i64 nxl, .int .i64 nxh, .int .i64 nyl, .int .i64 nyh] 33
  have hb0 : Below w.heap.size w (w.alloc (.cells #[.int .i64 nn, .bool nc, .int .i64 nf, .int .i64 nu, .int .i64 nxl, .int .i64 nxh, .int .i64 nyl, .int .i64 nyh] 33)) := balloc (Below.refl _ _) _
  have hX := hx.below hb0
  have hO := below_cell hb0 ho
  obtain ⟨z0, z1, z2, z3, z4, z5, z6⟩ := cells7y hX
  obtain ⟨y0, y1, y2, y3, y4, y5, y6, y7⟩ := cells8 hN
  go_enter Tryz.func120, Tryz.ntmps120
  by_cases q1 : nf ≤ xtl
  · by_cases q2 : xth ≤ nu
    · go_wp2_with fail
      refine (HO1.out _).mono ?_
      rintro e w3 ⟨rfl, hb3⟩
      clear z0 z1 z2 z3 z4 z5 z6 y0 y1 y2 y3 y4 y5 y6 y7
      have hB3 := below_trans hb0 hb3
      obtain ⟨z0, z1, z2, z3, z4, z5, z6⟩ := cells7y (hX.below hb3)
      obtain ⟨y0, y1, y2, y3, y4, y5, y6, y7⟩ := cells8 (hN.below hb3)
      have hO3 := below_cell hb3 hO
      clear hO
      cases r1 with
      | false =>
        go_wp2_with fail
        go_ret
        exact ⟨ret_bool (by rw [HE.out]; simp [*] <;> omega), hB3⟩
      | true =>
        go_wp2_with fail
        refine (HO2.out _).mono ?_
        rintro e w4 ⟨rfl, hb4⟩
        clear z0 z1 z2 z3 z4 z5 z6 y0 y1 y2 y3 y4 y5 y6 y7
        go_wp2_with fail
        go_ret
        exact ⟨ret_bool (by rw [HE.out]; simp [*] <;> omega), below_trans hB3 hb4⟩
    · go_wp2_with fail
      go_ret
      exact ⟨ret_bool (by rw [HE.out]; simp [*] <;> omega), hb0⟩
  · go_wp2_with fail
    go_ret
    exact ⟨ret_bool (by rw [HE.out]; simp [*] <;> omega), hb0⟩
end Go.Proofs.YtmglbegbijofkaaGreatDoor
