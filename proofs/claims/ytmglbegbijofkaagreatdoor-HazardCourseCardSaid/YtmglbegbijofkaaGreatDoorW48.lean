import Derived.Test.YtmglbegbijofkaaGreatDoorW19
import Derived.Test.YtmglbegbijofkaaGreatDoorPD
import Derived.Shelf.Strings.SlTrimAscii
set_option linter.unusedVariables false
set_option linter.unusedSimpArgs false
namespace Go.Proofs.YtmglbegbijofkaaGreatDoor
open Go.RowKit Go.Maps Go.Sort Go.Shelf

def NumEnd (o : Option Int) (e : Ending) : Prop := e = match o with | some n => .returned (.int .i64 n) | none => .panicked (errP 6)
theorem trim_any (s : ByteArray) (hs : s.size ≤ 9223372036854775807) (w : World) :
    Calls Tryz.prog 199 #[.string s, .string ⟨#[48, 49, 50, 51, 52, 53, 54, 55, 56, 57]⟩] w fun e w' => e = .returned (.string ⟨(Lib.trimS s.data.toList dig10).toArray⟩) ∧ Below w.heap.size w w' := by
  have h := Any.strings_Trim_laid Tryz.lays160 (by kernel_rfl) s ⟨#[48, 49, 50, 51, 52, 53, 54, 55, 56, 57]⟩ w hs (by decide) (ascii_of_all (by decide))
  exact h
theorem head_get (s : ByteArray) (h : 0 < s.size) : s.data.toList.headD 0 = s[0] := by
  have hl : 0 < s.data.toList.length := by simpa using h
  cases hc : s.data.toList with
  | nil => rw [hc] at hl; simp at hl
  | cons c l =>
    have e : s[0] = s.data.toList[0] := by rw [Array.getElem_toList]; rfl
    rw [e]; simp [hc]
set_option maxRecDepth 100000 in
set_option maxHeartbeats 800000 in
theorem plain_s (s : ByteArray) (hs : s.size ≤ 8796093022000) (w : World) :
    Calls Tryz.prog 176 #[.string s] w fun e w' => NumEnd (numV s.data.toList) e ∧ Below w.heap.size w w' := by
  have hlen : s.data.toList.length = s.size := by simp
  by_cases h0 : 0 < s.size
  · have HT := Lib.hid (fun W => trim_any s (by omega) W)
    have hh := head_get s h0
    have hne1 : ¬ s.toList = [] := by
      rw [ByteArray.toList_eq]
      intro e
      rw [e] at hlen
      simp at hlen
      omega
    have hne : s.toList.isEmpty = false := by simpa using hne1
    by_cases h1 : 1 < s.size
    · have z1 : (1 : Int) < (s.size : Int) := by omega
      by_cases h48 : s.data.toList.headD 0 = 48
      · have HN : Hid (numV s.data.toList = none) := show _ = _ from by
          have hb : numBad s.data.toList = true := by
            cases hc : numBad s.data.toList with
            | true => rfl
            | false => exact absurd h48 ((numBad_false.1 hc).2 (by rw [hlen]; exact h1))
          unfold numV; simp [hb]
        have z48 : ((s[0].toNat : Nat) : Int) = 48 := by rw [← hh, h48]; rfl
        clear h48 hh
        go_enter Tryz.func176, Tryz.ntmps176
        go_wp2_with fail
        refine ⟨rfl, ?_, ?_⟩
        · rw [HN.out]; rfl
        · exact Below.refl _ _
      · have z48 : ¬ ((s[0].toNat : Nat) : Int) = 48 := by
          rw [← hh]
          intro h
          exact h48 (UInt8.toNat_inj.1 (by have : (s.data.toList.headD 0).toNat = 48 := by omega
                                           simpa using this))
        have hbad : numBad s.data.toList = false := numBad_false.2 ⟨fun e => by rw [e] at hlen; simp at hlen; omega, fun _ => h48⟩
        have z48' : (((s[0].toNat : Nat) : Int) == 48) = false := by simpa using z48
        clear h48 hh
        have HBAD := Lib.hid hbad
        clear hbad
        by_cases hd : s.data.toList.all digB = true
        · have hnil : Lib.trimS s.data.toList dig10 = [] := (trim_nil _).2 hd
          rw [hnil] at HT
          by_cases h9 : 9 < s.size
          · have z9 : (9 : Int) < (s.size : Int) := by omega
            have HN := Lib.hid (numV_long HBAD.out hd (by rw [hlen]; exact h9))
            clear hd hnil
            go_enter Tryz.func176, Tryz.ntmps176
            go_wp2_with (go_at_call 199; refine (HT.out _).mono ?_; rintro e w' ⟨rfl, hB⟩)
            go_ret
            exact ⟨by rw [HN.out]; rfl, hB⟩
          · have z9 : ¬ (9 : Int) < (s.size : Int) := by omega
            have HN := Lib.hid (numV_short HBAD.out hd (by rw [hlen]; omega))
            have HA := Lib.hid (fun W => Tryz.strconv_Atoi s (valD s.data.toList : Int) (by omega) (atoi_val _ hd (numBad_false.1 HBAD.out).1) W)
            clear hd hnil
            generalize ((valD s.data.toList : Nat) : Int) = n at *
            go_enter Tryz.func176, Tryz.ntmps176
            go_wp2_with (go_at_call 199; refine (HT.out _).mono ?_; rintro e w' ⟨rfl, hB⟩)
            refine (HA.out _).mono ?_
            rintro e w2 ⟨rfl, t, rfl⟩
            have hB2 := below_trans hB (bytesWorld_below _ 5 t)
            go_wp2_with fail
            go_ret
            exact ⟨by rw [HN.out]; rfl, hB2⟩
        · have hnn : ¬ Lib.trimS s.data.toList dig10 = [] := fun h => hd ((trim_nil _).1 h)
          have HN : Hid (numV s.data.toList = none) := show _ = _ from by unfold numV; simp [hd]
          generalize Lib.trimS s.data.toList dig10 = r at *
          have hr0 : r.isEmpty = false := by simpa using hnn
          have hr : (!r.isEmpty) = true := by rw [hr0]; rfl
          clear hd hnn
          go_enter Tryz.func176, Tryz.ntmps176
          go_wp2_with (go_at_call 199; refine (HT.out _).mono ?_; rintro e w' ⟨rfl, hB⟩)
          refine ⟨rfl, ?_, hB⟩
          rw [HN.out]; rfl
    · have z1 : ¬ (1 : Int) < (s.size : Int) := by omega
      have hbad : numBad s.data.toList = false := numBad_false.2 ⟨fun e => by rw [e] at hlen; simp at hlen; omega, fun h => absurd h (by rw [hlen]; exact h1)⟩
      clear hh
      have HBAD := Lib.hid hbad
      clear hbad
      by_cases hd : s.data.toList.all digB = true
      · have hnil : Lib.trimS s.data.toList dig10 = [] := (trim_nil _).2 hd
        rw [hnil] at HT
        by_cases h9 : 9 < s.size
        · have z9 : (9 : Int) < (s.size : Int) := by omega
          have HN := Lib.hid (numV_long HBAD.out hd (by rw [hlen]; exact h9))
          clear hd hnil
          go_enter Tryz.func176, Tryz.ntmps176
          go_wp2_with (go_at_call 199; refine (HT.out _).mono ?_; rintro e w' ⟨rfl, hB⟩)
          go_ret
          exact ⟨by rw [HN.out]; rfl, hB⟩
        · have z9 : ¬ (9 : Int) < (s.size : Int) := by omega
          have HN := Lib.hid (numV_short HBAD.out hd (by rw [hlen]; omega))
          have HA := Lib.hid (fun W => Tryz.strconv_Atoi s (valD s.data.toList : Int) (by omega) (atoi_val _ hd (numBad_false.1 HBAD.out).1) W)
          clear hd hnil
          generalize ((valD s.data.toList : Nat) : Int) = n at *
          go_enter Tryz.func176, Tryz.ntmps176
          go_wp2_with (go_at_call 199; refine (HT.out _).mono ?_; rintro e w' ⟨rfl, hB⟩)
          refine (HA.out _).mono ?_
          rintro e w2 ⟨rfl, t, rfl⟩
          have hB2 := below_trans hB (bytesWorld_below _ 5 t)
          go_wp2_with fail
          go_ret
          exact ⟨by rw [HN.out]; rfl, hB2⟩
      · have hnn : ¬ Lib.trimS s.data.toList dig10 = [] := fun h => hd ((trim_nil _).1 h)
        have HN : Hid (numV s.data.toList = none) := show _ = _ from by unfold numV; simp [hd]
        generalize Lib.trimS s.data.toList dig10 = r at *
        have hr0 : r.isEmpty = false := by simpa using hnn
        have hr : (!r.isEmpty) = true := by rw [hr0]; rfl
        clear hd hnn
        go_enter Tryz.func176, Tryz.ntmps176
        go_wp2_with (go_at_call 199; refine (HT.out _).mono ?_; rintro e w' ⟨rfl, hB⟩)
        refine ⟨rfl, ?_, hB⟩
        rw [HN.out]; rfl
  · have hs0 : s = ⟨#[]⟩ := by
      have : s.data = #[] := Array.eq_empty_of_size_eq_zero (by show s.size = 0; omega)
      cases s; simp at this; rw [this]
    subst hs0
    have HN : Hid (numV ((⟨#[]⟩ : ByteArray).data.toList) = none) := show _ = _ from rfl
    go_enter Tryz.func176, Tryz.ntmps176
    go_wp2_with fail
    refine ⟨rfl, ?_, ?_⟩
    · rw [HN.out]; rfl
    · exact Below.refl _ _
theorem plain_any (x : List UInt8) (hs : x.length ≤ 8796093022000) (w : World) :
    Calls Tryz.prog 176 #[encStr x] w fun e w' => NumEnd (numV x) e ∧ Below w.heap.size w w' := by
  have h := plain_s ⟨x.toArray⟩ (by show x.toArray.size ≤ _; simpa using hs) w
  simpa [encStr] using h
theorem grown_after {W W1 W2 : World} {r : Nat} (hr : r < W1.heap.size) (hg : W.grownBy W1 (some r)) (hb : Below W1.heap.size W1 W2) : W.grownBy W2 (some r) :=
  ⟨hb.os.trans hg.os, hb.tape.trans hg.tape, hb.output.trans hg.output, Nat.le_trans hg.size hb.size, fun k hk hn => (hb.block k (Nat.lt_of_lt_of_le hk hg.size)).trans (hg.block k hk hn)⟩
theorem RdAt.lt {W : World} {Br : Nat} {ws : List (List UInt8)} (h : RdAt W Br ws) : Br < W.heap.size := by
  obtain ⟨a, c, hc, _⟩ := h
  exact World.block_lt_of_cell? _ _ hc
def RdEnd (Br : Nat) (o : Option (Int × List (List UInt8))) (e : Ending) (w' : World) : Prop :=
  match o with
  | none => e = .panicked (errP 6)
  | some (n, r) => e = .returned (.int .i64 n) ∧ RdAt w' Br r
set_option maxRecDepth 100000 in
set_option maxHeartbeats 800000 in
theorem number_any (Br : Nat) (ws : List (List UInt8)) (W : World) (h : RdAt W Br ws) (hs : ∀ x ∈ ws, x.length ≤ 8796093022000) : Calls Tryz.prog 139 #[.pointer (some ⟨Br, 0, none⟩)] W fun e w' => RdEnd Br (numberV ws) e w' ∧ W.grownBy w' (some Br) := by
  cases ws with
  | nil =>
    have HC := Lib.hid (word_nil Br W h)
    clear h
    go_enter Tryz.func139, Tryz.ntmps139
    go_wp2_with fail
    refine HC.out.mono ?_
    rintro e w1 ⟨rfl, rfl⟩
    go_wp2_with fail
    exact ⟨rfl, rfl, World.grownBy.refl _ _⟩
  | cons x ws =>
    have HC := Lib.hid (word_cons Br x ws W h)
    have HP := Lib.hid (fun W => plain_any x (hs x (by simp)) W)
    have HN : Hid (numberV (x :: ws) = match numV x with | some n => some (n, ws) | none => none) := show _ = _ from rfl
    clear h hs
    unfold NumEnd at HP
    go_enter Tryz.func139, Tryz.ntmps139
    go_wp2_with fail
    refine HC.out.mono ?_
    rintro e w1 ⟨rfl, hr, hg⟩
    have HR := Lib.hid hr
    have HG := Lib.hid hg
    clear hr hg
    go_wp2_with fail
    refine (HP.out _).mono ?_
    rintro e w2 ⟨he, hb⟩
    have hr2 := HR.out.below hb
    have hg2 := grown_after HR.out.lt HG.out hb
    cases hv : numV x with
    | none =>
      rw [hv] at he
      simp only at he
      subst he
      have HF : Hid (numberV (x :: ws) = none) := show _ = _ from by rw [HN.out, hv]
      go_wp2_with fail
      exact ⟨rfl, by rw [HF.out]; rfl, hg2⟩
    | some n =>
      rw [hv] at he
      simp only at he
      subst he
      have HV : Hid (numberV (x :: ws) = some (n, ws)) := show _ = _ from by rw [HN.out, hv]
      have HF := Lib.hid (And.intro hr2 hg2)
      clear hr2 hg2 hb HR HG
      go_wp2_with fail
      go_ret
      exact ⟨by rw [HV.out]; exact ⟨rfl, HF.out.1⟩, HF.out.2⟩
set_option maxRecDepth 100000 in
set_option maxHeartbeats 800000 in
theorem signed_any (Br : Nat) (ws : List (List UInt8)) (W : World) (h : RdAt W Br ws) (hs : ∀ x ∈ ws, x.length ≤ 8796093022000) : Calls Tryz.prog 177 #[.pointer (some ⟨Br, 0, none⟩)] W fun e w' => RdEnd Br (signedV ws) e w' ∧ W.grownBy w' (some Br) := by
  cases ws with
  | nil =>
    have HC := Lib.hid (word_nil Br W h)
    clear h
    go_enter Tryz.func177, Tryz.ntmps177
    go_wp2_with fail
    refine HC.out.mono ?_
    rintro e w1 ⟨rfl, rfl⟩
    go_wp2_with fail
    exact ⟨rfl, rfl, World.grownBy.refl _ _⟩
  | cons x ws =>
    have HC := Lib.hid (word_cons Br x ws W h)
    have HN : Hid (signedV (x :: ws) = match sigV x with | some n => some (n, ws) | none => none) := show _ = _ from rfl
    have hx := hs x (by simp)
    clear h hs
    by_cases h45 : x.headD 0 = 45
    · obtain ⟨l, rfl⟩ : ∃ l, x = 45 :: l := by
        cases x with
        | nil => simp at h45
        | cons c l => simp at h45; subst h45; exact ⟨l, rfl⟩
      have HX : Hid (∀ W : World, Calls Tryz.prog 201 #[.string ⟨(45 :: l : List UInt8).toArray⟩, .string ⟨#[45]⟩] W fun e w' => e = .returned (.tuple #[.string ⟨l.toArray⟩, .bool true]) ∧ w' = W) := show ∀ _, _ from fun W => by
        have h := Tryz.strings_CutPrefix ⟨(45 :: l : List UInt8).toArray⟩ ⟨#[45]⟩ W
        have e1 : Lib.trimPrefix (45 :: l) [45] = l := by simp [Lib.trimPrefix, Lib.hasPrefix]
        have e2 : Lib.hasPrefix (45 :: l) [45] = true := by simp [Lib.hasPrefix]
        simpa [e1, e2] using h
      have HS : Hid (sigV (45 :: l) = match numV l with | some n => if 0 < n then some (-n) else none | none => none) := show _ = _ from rfl
      have HP := Lib.hid (fun W => plain_any l (by simp at hx; omega) W)
      clear h45 hx
      unfold NumEnd at HP
      generalize hXL : (45 :: l : List UInt8) = X at *
      unfold encStr at HC HP
      go_enter Tryz.func177, Tryz.ntmps177
      go_wp2_with fail
      refine HC.out.mono ?_
      rintro e w1 ⟨rfl, hr, hg⟩
      have HR := Lib.hid hr
      have HG := Lib.hid hg
      clear hr hg
      go_wp2_with fail
      refine (HX.out _).mono ?_
      rintro e w1' ⟨rfl, rfl⟩
      go_wp2_with fail
      refine (HP.out _).mono ?_
      rintro e w2 ⟨he, hb⟩
      have HF := Lib.hid (And.intro (HR.out.below hb) (grown_after HR.out.lt HG.out hb))
      clear hb HR HG
      cases hv : numV l with
      | none =>
        rw [hv] at he
        simp only at he
        subst he
        have HV : Hid (signedV (X :: ws) = none) := show _ = _ from by rw [HN.out, HS.out, hv]
        go_wp2_with fail
        exact ⟨rfl, by rw [HV.out]; rfl, HF.out.2⟩
      | some n =>
        have hbd := numV_bd hv
        rw [hv] at he
        simp only at he
        subst he
        by_cases hn : 0 < n
        · have hn0 : ¬ n = 0 := by omega
          have hw : IntKind.i64.wrap (-n) = -n := by rw [IntKind.wrap_i64]; omega
          have HV : Hid (signedV (X :: ws) = some (-n, ws)) := show _ = _ from by rw [HN.out, HS.out, hv]; simp [hn]
          go_wp2_with fail
          go_ret
          exact ⟨by rw [HV.out]; exact ⟨rfl, HF.out.1⟩, HF.out.2⟩
        · have hn0 : n = 0 := by omega
          subst hn0
          have HV : Hid (signedV (X :: ws) = none) := show _ = _ from by rw [HN.out, HS.out, hv]; simp
          go_wp2_with fail
          exact ⟨rfl, by rw [HV.out]; rfl, HF.out.2⟩
    · have HX : Hid (∀ W : World, Calls Tryz.prog 201 #[.string ⟨x.toArray⟩, .string ⟨#[45]⟩] W fun e w' => e = .returned (.tuple #[.string ⟨x.toArray⟩, .bool false]) ∧ w' = W) := show ∀ _, _ from fun W => by
        have h := Tryz.strings_CutPrefix ⟨x.toArray⟩ ⟨#[45]⟩ W
        have e2 : Lib.hasPrefix x [45] = false := by
          cases x with
          | nil => simp [Lib.hasPrefix]
          | cons c l =>
            simp at h45
            cases hq : Lib.hasPrefix (c :: l) [45] with
            | false => rfl
            | true => simp [Lib.hasPrefix, List.isPrefixOf] at hq; exact absurd hq.symm h45
        have e1 : Lib.trimPrefix x [45] = x := by simp [Lib.trimPrefix, e2]
        simpa [e1, e2] using h
      have HS : Hid (sigV x = numV x) := show _ = _ from by unfold sigV; rw [if_neg h45]
      have HP := Lib.hid (fun W => plain_any x hx W)
      clear h45 hx
      unfold NumEnd at HP
      unfold encStr at HC HP
      go_enter Tryz.func177, Tryz.ntmps177
      go_wp2_with fail
      refine HC.out.mono ?_
      rintro e w1 ⟨rfl, hr, hg⟩
      have HR := Lib.hid hr
      have HG := Lib.hid hg
      clear hr hg
      go_wp2_with fail
      refine (HX.out _).mono ?_
      rintro e w1' ⟨rfl, rfl⟩
      go_wp2_with fail
      refine (HP.out _).mono ?_
      rintro e w2 ⟨he, hb⟩
      have HF := Lib.hid (And.intro (HR.out.below hb) (grown_after HR.out.lt HG.out hb))
      clear hb HR HG
      cases hv : numV x with
      | none =>
        rw [hv] at he
        simp only at he
        subst he
        have HV : Hid (signedV (x :: ws) = none) := show _ = _ from by rw [HN.out, HS.out, hv]
        go_wp2_with fail
        exact ⟨rfl, by rw [HV.out]; rfl, HF.out.2⟩
      | some n =>
        rw [hv] at he
        simp only at he
        subst he
        have HV : Hid (signedV (x :: ws) = some (n, ws)) := show _ = _ from by rw [HN.out, HS.out, hv]
        go_wp2_with fail
        go_ret
        exact ⟨by rw [HV.out]; exact ⟨rfl, HF.out.1⟩, HF.out.2⟩
end Go.Proofs.YtmglbegbijofkaaGreatDoor
