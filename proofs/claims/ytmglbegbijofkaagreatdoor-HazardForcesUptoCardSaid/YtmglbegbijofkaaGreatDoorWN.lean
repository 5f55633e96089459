import Derived.Test.YtmglbegbijofkaaGreatDoorW52
import Derived.Test.YtmglbegbijofkaaGreatDoorW48
import Derived.Test.YtmglbegbijofkaaGreatDoorW12
import Derived.Test.YtmglbegbijofkaaGreatDoorPl25
import Derived.Test.YtmglbegbijofkaaGreatDoorW51
import Derived.Test.YtmglbegbijofkaaGreatDoorPl26
set_option linter.unusedVariables false
set_option linter.unusedSimpArgs false
namespace Go.Proofs.YtmglbegbijofkaaGreatDoor
open Go.RowKit Go.Maps Go.Sort Go.Shelf
def tupV (o : Option Int) : Int × Bool := match o with | some n => (n, true) | none => (0, false)
def NumTup (o : Option Int) (e : Ending) : Prop := e = .returned (.tuple #[.int .i64 (tupV o).1, .bool (tupV o).2])
theorem take_val (s : ByteArray) (k : Nat) (hk : k < s.size) : valD (s.data.toList.take (k + 1)) = valD (s.data.toList.take k) * 10 + (s[k].toNat - 48) ∧ (s.data.toList.take (k + 1)).all digB = ((s.data.toList.take k).all digB && digB s[k]) := by
  have hl : k < s.data.toList.length := by simpa using hk
  have e : s.data.toList[k] = s[k] := by rw [Array.getElem_toList]; rfl
  rw [List.take_succ_eq_append_getElem hl, e]
  exact ⟨valD_snoc _ _, by simp⟩
set_option maxRecDepth 100000 in
set_option maxHeartbeats 800000 in
theorem rnumber_any (s : ByteArray) (hs : s.size ≤ 8796093022000) (w : World) : Calls Tryz.prog 78 #[.string s] w fun e w' => NumTup (numV s.data.toList) e ∧ w = w' := by
  have hlen : s.data.toList.length = s.size := by simp
  by_cases h0 : 0 < s.size
  · have hh := head_get s h0
    have z0 : ¬ (s.size : Int) < 1 := by omega
    by_cases hb : numBad s.data.toList = true
    · have h1 : 1 < s.size ∧ s.data.toList.headD 0 = 48 := by
        by_cases h1 : 1 < s.size
        · by_cases h2 : s.data.toList.headD 0 = 48
          · exact ⟨h1, h2⟩
          · rw [numBad_false.2 ⟨fun e => by rw [e] at hlen; simp at hlen; omega, fun _ => h2⟩] at hb; cases hb
        · rw [numBad_false.2 ⟨fun e => by rw [e] at hlen; simp at hlen; omega, fun h => absurd h (by omega)⟩] at hb; cases hb
      have HN : Hid (numV s.data.toList = none) := show _ = _ from by unfold numV; simp [hb]
      have z1 : (1 : Int) < (s.size : Int) := by omega
      have z48 : ((s[0].toNat : Nat) : Int) = 48 := by rw [← hh, h1.2]; rfl
      clear hb h1 hh
      go_enter Tryz.func78, Tryz.ntmps78
      go_wp2_with fail
      go_ret2
      exact ⟨by rw [HN.out]; rfl, rfl⟩
    · have HB := Lib.hid hb
      have hg : ¬ (1 < s.size ∧ ((s[0].toNat : Nat) : Int) = 48) := by
        rintro ⟨h1, h2⟩
        have h3 : s.data.toList.headD 0 = 48 := by
          rw [hh]; apply UInt8.toNat_inj.1
          have : s[0].toNat = 48 := by omega
          simpa using this
        cases hn : numBad s.data.toList with
        | true => exact hb hn
        | false => exact (numBad_false.1 hn).2 (by omega) h3
      have HV : Hid (s.data.toList.all digB = true → numV s.data.toList = some ((min 1000000000 (valD s.data.toList) : Nat) : Int)) := show _ → _ from fun h => by
        unfold numV
        rw [eq_false_of_ne_true hb, h]
        simp
        omega
      have HF : Hid (s.data.toList.all digB = false → numV s.data.toList = none) := show _ → _ from fun h => by
        unfold numV
        rw [h]
        simp
      clear hh hb hlen HB
      by_cases h1 : 1 < s.size
      · have z1 : (1 : Int) < (s.size : Int) := by omega
        have zz : (((s[0].toNat : Nat) : Int) == 48) = false := beq_eq_false_iff_ne.2 (fun h => hg ⟨h1, h⟩)
        clear hg
        go_enter Tryz.func78, Tryz.ntmps78
        go_wp2_with fail
        go_loop [4, 5] (fun n i => ∃ k m : Nat, k ≤ s.size ∧ i = .int .i64 k ∧ n = .int .i64 m ∧ m ≤ 1000000000 ∧ Hid (m = min 1000000000 (valD (s.data.toList.take k))) ∧ Hid ((s.data.toList.take k).all digB = true)) (fun _ i => s.size - (intOf i).toNat)
        case atStart => exact ⟨0, 0, Nat.zero_le _, rfl, rfl, by omega, rfl, rfl⟩
        case round =>
          obtain ⟨k, m, hk, rfl, rfl, hm, HM, HA⟩ := hrel
          by_cases hlt : k < s.size
          · obtain ⟨t1, t2⟩ := take_val s k hlt
            have HT1 := Lib.hid t1
            have HT2 := Lib.hid t2
            clear t1 t2
            have hx0 : (0 : Int) ≤ (s[k].toNat : Int) := by omega
            have hx1 : (s[k].toNat : Int) < 256 := by have := s[k].toNat_lt; omega
            have hx : (s[k].toNat : Int) < 48 ∨ (48 ≤ (s[k].toNat : Int) ∧ (s[k].toNat : Int) ≤ 57) ∨ 57 < (s[k].toNat : Int) := by omega
            have HBad : Hid (digB s[k] = false → numV s.data.toList = none) := show _ → _ from fun hd => by
              cases hall : s.data.toList.all digB with
              | false => exact HF.out hall
              | true =>
                have h3 : (s.data.toList.take (k + 1)).all digB = true := List.all_eq_true.2 fun y hy => List.all_eq_true.1 hall y (List.mem_of_mem_take hy)
                rw [HT2.out, hd, Bool.and_false] at h3
                cases h3
            clear HV HF
            rcases hx with h | ⟨h, h'⟩ | h
            · have HN : Hid (numV s.data.toList = none) := show _ = _ from HBad.out (by unfold digB; simp; omega)
              clear HBad
              go_wp2_with fail
              go_ret2
              exact ⟨by rw [HN.out]; rfl, rfl⟩
            · have hdg : Hid (digB s[k] = true) := show _ = _ from by unfold digB; simp; omega
              clear HBad
              go_wp2_with fail
              go_round
              case rel =>
                refine ⟨k + 1, min 1000000000 (10 * m + (s[k].toNat - 48)), by omega, by go_num, ?_, by omega, ?_, ?_⟩
                · congr 1; omega
                · show _ = _
                  have := HM.out
                  rw [HT1.out]; omega
                · show _ = _
                  rw [HT2.out, HA.out, hdg.out]; rfl
              case measure => simp [intOf]; omega
            · have HN : Hid (numV s.data.toList = none) := show _ = _ from HBad.out (by unfold digB; simp; omega)
              have z48 : ¬ (s[k].toNat : Int) < 48 := by omega
              clear HBad
              go_wp2_with fail
              go_ret2
              exact ⟨by rw [HN.out]; rfl, rfl⟩
          · have hA2 : Hid (numV s.data.toList = some ((m : Nat) : Int)) := show _ = _ from by
              have e : s.data.toList.take k = s.data.toList := List.take_of_length_le (by simp; omega)
              have e1 := HA.out
              have e2 := HM.out
              rw [e] at e1 e2
              rw [HV.out e1, e2]
            clear HV HF HA HM
            have hke : k = s.size := by omega
            go_wp2_with fail
            go_ret2
            exact ⟨by rw [hA2.out]; rfl, rfl⟩
      · have z1 : ¬ (1 : Int) < (s.size : Int) := by omega
        clear hg
        go_enter Tryz.func78, Tryz.ntmps78
        go_wp2_with fail
        go_loop [4, 5] (fun n i => ∃ k m : Nat, k ≤ s.size ∧ i = .int .i64 k ∧ n = .int .i64 m ∧ m ≤ 1000000000 ∧ Hid (m = min 1000000000 (valD (s.data.toList.take k))) ∧ Hid ((s.data.toList.take k).all digB = true)) (fun _ i => s.size - (intOf i).toNat)
        case atStart => exact ⟨0, 0, Nat.zero_le _, rfl, rfl, by omega, rfl, rfl⟩
        case round =>
          obtain ⟨k, m, hk, rfl, rfl, hm, HM, HA⟩ := hrel
          by_cases hlt : k < s.size
          · obtain ⟨t1, t2⟩ := take_val s k hlt
            have HT1 := Lib.hid t1
            have HT2 := Lib.hid t2
            clear t1 t2
            have hx0 : (0 : Int) ≤ (s[k].toNat : Int) := by omega
            have hx1 : (s[k].toNat : Int) < 256 := by have := s[k].toNat_lt; omega
            have hx : (s[k].toNat : Int) < 48 ∨ (48 ≤ (s[k].toNat : Int) ∧ (s[k].toNat : Int) ≤ 57) ∨ 57 < (s[k].toNat : Int) := by omega
            have HBad : Hid (digB s[k] = false → numV s.data.toList = none) := show _ → _ from fun hd => by
              cases hall : s.data.toList.all digB with
              | false => exact HF.out hall
              | true =>
                have h3 : (s.data.toList.take (k + 1)).all digB = true := List.all_eq_true.2 fun y hy => List.all_eq_true.1 hall y (List.mem_of_mem_take hy)
                rw [HT2.out, hd, Bool.and_false] at h3
                cases h3
            clear HV HF
            rcases hx with h | ⟨h, h'⟩ | h
            · have HN : Hid (numV s.data.toList = none) := show _ = _ from HBad.out (by unfold digB; simp; omega)
              clear HBad
              go_wp2_with fail
              go_ret2
              exact ⟨by rw [HN.out]; rfl, rfl⟩
            · have hdg : Hid (digB s[k] = true) := show _ = _ from by unfold digB; simp; omega
              clear HBad
              go_wp2_with fail
              go_round
              case rel =>
                refine ⟨k + 1, min 1000000000 (10 * m + (s[k].toNat - 48)), by omega, by go_num, ?_, by omega, ?_, ?_⟩
                · congr 1; omega
                · show _ = _
                  have := HM.out
                  rw [HT1.out]; omega
                · show _ = _
                  rw [HT2.out, HA.out, hdg.out]; rfl
              case measure => simp [intOf]; omega
            · have HN : Hid (numV s.data.toList = none) := show _ = _ from HBad.out (by unfold digB; simp; omega)
              have z48 : ¬ (s[k].toNat : Int) < 48 := by omega
              clear HBad
              go_wp2_with fail
              go_ret2
              exact ⟨by rw [HN.out]; rfl, rfl⟩
          · have hA2 : Hid (numV s.data.toList = some ((m : Nat) : Int)) := show _ = _ from by
              have e : s.data.toList.take k = s.data.toList := List.take_of_length_le (by simp; omega)
              have e1 := HA.out
              have e2 := HM.out
              rw [e] at e1 e2
              rw [HV.out e1, e2]
            clear HV HF HA HM
            have hke : k = s.size := by omega
            go_wp2_with fail
            go_ret2
            exact ⟨by rw [hA2.out]; rfl, rfl⟩
  · have hnil : s.data.toList = [] := List.eq_nil_of_length_eq_zero (by omega)
    have HN : Hid (numV s.data.toList = none) := show _ = _ from by rw [hnil]; rfl
    have z0 : (s.size : Int) < 1 := by omega
    clear hnil h0
    go_enter Tryz.func78, Tryz.ntmps78
    go_wp2_with fail
    go_ret2
    exact ⟨by rw [HN.out]; rfl, rfl⟩
end Go.Proofs.YtmglbegbijofkaaGreatDoor
namespace Go.Proofs.YtmglbegbijofkaaGreatDoor
open Go.RowKit Go.Maps Go.Sort Go.Shelf
theorem tail_list (s : ByteArray) : (s.extract 1 s.size).data.toList = s.data.toList.tail := by
  have h : (s.extract 1 s.size).data.toList = (s.data.toList.drop 1).take (s.size - 1) := by simp
  rw [h, List.drop_one, List.take_of_length_le (by simp)]
set_option maxRecDepth 100000 in
set_option maxHeartbeats 800000 in
theorem rsigned_any (s : ByteArray) (hs : s.size ≤ 8796093022000) (w : World) : Calls Tryz.prog 79 #[.string s] w fun e w' => NumTup (sigV s.data.toList) e ∧ w = w' := by
  have HP := Lib.hid (fun W => rnumber_any s hs W)
  have hts : (s.extract 1 s.size).size ≤ 8796093022000 := by rw [ByteArray.size_extract]; omega
  have HT := Lib.hid (fun W => rnumber_any (s.extract 1 s.size) hts W)
  by_cases h0 : 0 < s.size
  · have hh := head_get s h0
    have z0 : (0 : Int) < (s.size : Int) := by omega
    by_cases h45 : s.data.toList.headD 0 = 45
    · have z45 : (((s[0].toNat : Nat) : Int) == 45) = true := beq_iff_eq.2 (by rw [← hh, h45]; rfl)
      have HS : Hid (sigV s.data.toList = match numV (s.extract 1 s.size).data.toList with | some n => if 0 < n then some (-n) else none | none => none) := show _ = _ from by rw [tail_list]; unfold sigV; rw [if_pos h45]; cases numV s.data.toList.tail <;> rfl
      clear h45 hh HP
      go_enter Tryz.func79, Tryz.ntmps79
      go_wp2_with fail
      refine (HT.out _).mono ?_
      rintro e w1 ⟨he, rfl⟩
      unfold NumTup at he
      cases hv : numV (s.extract 1 s.size).data.toList with
      | none =>
        rw [hv] at he
        simp only [tupV] at he
        subst he
        have HV : Hid (sigV s.data.toList = none) := show _ = _ from by rw [HS.out, hv]
        clear HS HT hv
        go_wp2_with fail
        go_ret2
        exact ⟨by rw [HV.out]; rfl, rfl⟩
      | some n =>
        obtain ⟨hn0, hn1⟩ := numV_bd hv
        rw [hv] at he
        simp only [tupV] at he
        subst he
        have hw : IntKind.i64.wrap (-n) = -n := by rw [IntKind.wrap_i64]; omega
        by_cases hp : 0 < n
        · have HV : Hid (sigV s.data.toList = some (-n)) := show _ = _ from by rw [HS.out, hv]; simp [hp]
          clear HS HT hv
          go_wp2_with fail
          go_ret2
          exact ⟨by rw [HV.out]; rfl, rfl⟩
        · have HV : Hid (sigV s.data.toList = none) := show _ = _ from by rw [HS.out, hv]; simp [hp]
          obtain rfl : n = 0 := by omega
          clear HS HT hv hw hp
          go_wp2_with fail
          go_ret2
          exact ⟨by rw [HV.out]; rfl, rfl⟩
    · have z45 : (((s[0].toNat : Nat) : Int) == 45) = false := beq_eq_false_iff_ne.2 (fun h => h45 (by rw [hh]; apply UInt8.toNat_inj.1; have : s[0].toNat = 45 := by omega
                                                                                                       simpa using this))
      have HS : Hid (sigV s.data.toList = numV s.data.toList) := show _ = _ from by unfold sigV; rw [if_neg h45]
      clear h45 hh HT hts
      go_enter Tryz.func79, Tryz.ntmps79
      go_wp2_with fail
      refine (HP.out _).mono ?_
      rintro e w1 ⟨he, rfl⟩
      unfold NumTup at he
      subst he
      go_wp2_with fail
      go_ret2
      exact ⟨by rw [HS.out]; rfl, rfl⟩
  · have hl0 : s.data.toList.length = s.size := by simp
    have hnil : s.data.toList = [] := List.eq_nil_of_length_eq_zero (by omega)
    have HS : Hid (sigV s.data.toList = numV s.data.toList) := show _ = _ from by rw [hnil]; rfl
    have z0 : ¬ (0 : Int) < (s.size : Int) := by omega
    clear hnil h0 HT hts
    go_enter Tryz.func79, Tryz.ntmps79
    go_wp2_with fail
    refine (HP.out _).mono ?_
    rintro e w1 ⟨he, rfl⟩
    unfold NumTup at he
    subst he
    go_wp2_with fail
    go_ret2
    exact ⟨by rw [HS.out]; rfl, rfl⟩
end Go.Proofs.YtmglbegbijofkaaGreatDoor
namespace Go.Proofs.YtmglbegbijofkaaGreatDoor
open Go.RowKit Go.Maps Go.Sort Go.Shelf
theorem ext_one (s : ByteArray) (k : Nat) (hk : k < s.size) : (s.extract k (k + 1)).data.toList = [s[k]] := by
  have hl : k < s.data.toList.length := by simpa using hk
  have e : s.data.toList[k] = s[k] := by rw [Array.getElem_toList]; rfl
  have h : (s.extract k (k + 1)).data.toList = (s.data.toList.drop k).take 1 := by simp
  rw [h, List.drop_eq_getElem_cons hl, e]
  rfl
theorem take_one (s : ByteArray) (k : Nat) (hk : k < s.size) : s.data.toList.take (k + 1) = s.data.toList.take k ++ [s[k]] := by
  have hl : k < s.data.toList.length := by simpa using hk
  have e : s.data.toList[k] = s[k] := by rw [Array.getElem_toList]; rfl
  rw [List.take_succ_eq_append_getElem hl, e]
/-- a row of words -/
def WordsPost (w : World) (l : List UInt8) (e : Ending) (w' : World) : Prop :=
  ∃ (v : Value) (Q : List ByteArray), e = .returned v ∧ Q.map (fun x => x.data.toList) = wordsL l ∧ w'.ownsRow w.heap.size 9 1 v Q.length (Q.map Value.string) ∧ Below w.heap.size w w'
set_option maxRecDepth 100000 in
set_option maxHeartbeats 800000 in
theorem rwords_any (s : ByteArray) (hs : s.size ≤ 8796093022000) (w : World) : Calls Tryz.prog 77 #[.string s] w (WordsPost w s.data.toList) := by
  obtain ⟨i0, hi, hz0, hz1, hz2⟩ := info_parts Tryz.info9
  go_enter Tryz.func77, Tryz.ntmps77
  go_wp2_with fail
  go_loopw [3, 4, 5] (fun ov wv i wr => ∃ (k : Nat) (v : Value) (O : List ByteArray) (W : ByteArray), k ≤ s.size ∧ i = .int .i64 k ∧ v = ov ∧ wv = .string W ∧ W.size ≤ k ∧ O.length ≤ k ∧ Hid (wordsL (s.data.toList.take k) = O.map (fun x => x.data.toList) ++ [W.data.toList]) ∧ Hid (wr.ownsRow w.heap.size 9 1 v O.length (O.map Value.string)) ∧ Below w.heap.size w wr) (fun _ _ i _ => s.size - (intOf i).toNat)
  case atStart => exact ⟨0, .slice none 0 0, [], ⟨#[]⟩, Nat.zero_le _, rfl, rfl, rfl, Nat.le_refl _, Nat.le_refl _, show _ = _ from rfl, World.ownsRow_nil _ _ _ _, Below.refl _ _⟩
  case round =>
    obtain ⟨k, v, O, W, hk, rfl, rfl, rfl, hW, hO, HWD, HO, hB⟩ := hrel
    by_cases hlt : k < s.size
    · have i1 : (0 : Int) ≤ (k : Int) := by omega
      have i2 : (k : Int) < (s.size : Int) := by omega
      have HTK := Lib.hid (take_one s k hlt)
      have HEX := Lib.hid (ext_one s k hlt)
      by_cases h32 : s[k] = 32
      · have z32 : (((s[k].toNat : Nat) : Int) == 32) = true := beq_iff_eq.2 (by rw [h32]; rfl)
        have HNX : Hid (wordsL (s.data.toList.take (k + 1)) = (O ++ [W]).map (fun x => x.data.toList) ++ [([] : List UInt8)]) := show _ = _ from by
          rw [HTK.out, h32, words_snoc_sp, HWD.out]; simp
        clear h32
        go_wp2_with ((at_builtin; refine wpList_append_lies _ (by rfl) _ _ _ (by rfl) w.heap.size 9 i0 _ 1 16 Tryz.underlying109 hi hz0 hz1 hz2 rfl (by omega) v O.length _ (by rfl) (World.ownsRow.alloc HO.out _) ⟨wr.heap.size, 0, none⟩ 1 1 [.string W] (by rfl) (by rfl) (World.news_of_block (cs := #[.string W]) (t := 9) (fr := (0, 0)) (heap_alloc_new wr _)) (by simp [Value.oneCell']) (by omega) (by unfold maxLen; omega) (by omega) (by have := hB.size; simp; omega) (wr.heap.size + 1) (by simp) ?_))
        intro g7 cap7 w7 hown7 hgrow hat hlt7
        have hB7 := below_grown (balloc hB _) hgrow (fun g hg => (HO.out.lt g hg).1)
        clear hat
        go_wp2_with fail
        go_roundw
        case rel => exact ⟨k + 1, _, O ++ [W], ⟨#[]⟩, by omega, by go_num, rfl, rfl, Nat.zero_le _, (by simp; omega), HNX.out, (by show World.ownsRow _ _ _ _ _ _ _; rw [List.map_append, List.length_append]; exact hown7), hB7⟩
        case measure => simp [intOf]; omega
      · have z32 : (((s[k].toNat : Nat) : Int) == 32) = false := beq_eq_false_iff_ne.2 (fun h => h32 (by
          apply UInt8.toNat_inj.1
          have : s[k].toNat = 32 := by omega
          simpa using this))
        have HNX : Hid (wordsL (s.data.toList.take (k + 1)) = O.map (fun x => x.data.toList) ++ [(W ++ s.extract k (k + 1)).data.toList]) := show _ = _ from by
          rw [HTK.out, words_snoc_ch h32 _ _ _ HWD.out, ByteArray.data_append, Array.toList_append, HEX.out]
        have hes : (s.extract k (k + 1)).size ≤ 1 := by rw [ByteArray.size_extract]; omega
        have hws : (W ++ s.extract k (k + 1)).size ≤ k + 1 := by rw [ByteArray.size_append]; omega
        have i3 : (k : Int) + 1 ≤ (s.size : Int) := by omega
        clear h32
        go_wp2_with fail
        go_roundw
        case rel => exact ⟨k + 1, v, O, W ++ s.extract k (k + 1), by omega, by go_num, rfl, rfl, hws, by omega, HNX.out, HO.out, hB⟩
        case measure => simp [intOf]; omega
    · obtain rfl : k = s.size := by omega
      have HNX : Hid ((O ++ [W]).map (fun x => x.data.toList) = wordsL s.data.toList) := show _ = _ from by
        have h := HWD.out
        rw [List.take_of_length_le (by simp)] at h
        rw [h]; simp
      go_wp2_with ((at_builtin; refine wpList_append_lies _ (by rfl) _ _ _ (by rfl) w.heap.size 9 i0 _ 1 16 Tryz.underlying109 hi hz0 hz1 hz2 rfl (by omega) v O.length _ (by rfl) (World.ownsRow.alloc HO.out _) ⟨wr.heap.size, 0, none⟩ 1 1 [.string W] (by rfl) (by rfl) (World.news_of_block (cs := #[.string W]) (t := 9) (fr := (0, 0)) (heap_alloc_new wr _)) (by simp [Value.oneCell']) (by omega) (by unfold maxLen; omega) (by omega) (by have := hB.size; simp; omega) (wr.heap.size + 1) (by simp) ?_))
      intro g7 cap7 w7 hown7 hgrow hat hlt7
      have hB7 := below_grown (balloc hB _) hgrow (fun g hg => (HO.out.lt g hg).1)
      clear hat
      go_wp2_with fail
      go_ret
      exact ⟨_, O ++ [W], rfl, HNX.out, (by show World.ownsRow _ _ _ _ _ _ _; rw [List.map_append, List.length_append]; exact hown7), hB7⟩
end Go.Proofs.YtmglbegbijofkaaGreatDoor
namespace Go.Proofs.YtmglbegbijofkaaGreatDoor
open Go.RowKit Go.Maps Go.Sort Go.Shelf
def wAt (ws : List (List UInt8)) (i : Nat) : List UInt8 := ws.getD i []
theorem tup_cases {o : Option Int} {n : Int} {b : Bool} (h : tupV o = (n, b)) : (b = false → o = none) ∧ (b = true → o = some n) := by
  cases o <;> simp [tupV] at h <;> obtain ⟨rfl, rfl⟩ := h <;> simp
theorem row_words {w w' : World} {v : Value} {ws : List (List UInt8)} (h : w'.ownsRow w.heap.size 9 1 v ws.length (ws.map fun x => Value.string ⟨x.toArray⟩)) (hn : ws ≠ []) :
    ∃ g c, v = .slice (some ⟨g, 0, none⟩) ws.length c ∧ g < w'.heap.size ∧ ∀ i, i < ws.length → w'.cell? ⟨g, i, none⟩ = some (.string ⟨(wAt ws i).toArray⟩) := by
  unfold wAt
  have hp := List.length_pos_iff.2 hn
  obtain ⟨h1, ⟨_, h2⟩ | ⟨g, cap, cur, rfl, h4, h5, h6, h7, h8, h9⟩⟩ := h
  · omega
  · refine ⟨g, cap, rfl, (Array.getElem?_eq_some_iff.1 h5).1, fun i hi => ?_⟩
    have hg : (ws.map fun x => Value.string ⟨x.toArray⟩)[i]? = some (.string ⟨(ws.getD i []).toArray⟩) := by simp [hi]
    rw [← h9, List.getElem?_take_of_lt (by omega)] at hg
    unfold World.cell?
    rw [h5]
    simpa using hg
/-- the words as a row of strings -/
theorem rwords_list (s : List UInt8) (hs : s.length ≤ 8796093022000) (w : World) : Calls Tryz.prog 77 #[.string ⟨s.toArray⟩] w fun e w' => ∃ v, e = .returned v ∧ w'.ownsRow w.heap.size 9 1 v (wordsL s).length ((wordsL s).map fun x => Value.string ⟨x.toArray⟩) ∧ Below w.heap.size w w' := by
  refine (rwords_any ⟨s.toArray⟩ (by simpa [ByteArray.size] using hs) w).mono ?_
  rintro e w' ⟨v, Q, he, hq, ho, hb⟩
  have hq2 : Q.map (fun x => x.data.toList) = wordsL s := hq
  refine ⟨v, he, ?_, hb⟩
  have h1 : (wordsL s).length = Q.length := by rw [← hq2, List.length_map]
  have h2 : ((wordsL s).map fun x => Value.string ⟨x.toArray⟩) = Q.map Value.string := by rw [← hq2, List.map_map]; rfl
  rw [h1, h2]
  exact ho
theorem refNums_none0 {ws : List (List UInt8)} (h : numV (wAt ws 1) = none) : refNums ws = none := by
  unfold wAt at h
  unfold refNums
  first
    | (rw [h]; done)
    | (rw [h]; split <;> simp_all)
theorem refNums_none1 {ws : List (List UInt8)} (h : numV (wAt ws 3) = none) : refNums ws = none := by
  unfold wAt at h
  unfold refNums
  first
    | (rw [h]; done)
    | (rw [h]; split <;> simp_all)
theorem refNums_none2 {ws : List (List UInt8)} (h : numV (wAt ws 5) = none) : refNums ws = none := by
  unfold wAt at h
  unfold refNums
  first
    | (rw [h]; done)
    | (rw [h]; split <;> simp_all)
theorem refNums_none3 {ws : List (List UInt8)} (h : sigV (wAt ws 7) = none) : refNums ws = none := by
  unfold wAt at h
  unfold refNums
  first
    | (rw [h]; done)
    | (rw [h]; split <;> simp_all)
theorem refNums_none4 {ws : List (List UInt8)} (h : sigV (wAt ws 8) = none) : refNums ws = none := by
  unfold wAt at h
  unfold refNums
  first
    | (rw [h]; done)
    | (rw [h]; split <;> simp_all)
theorem refNums_none5 {ws : List (List UInt8)} (h : sigV (wAt ws 10) = none) : refNums ws = none := by
  unfold wAt at h
  unfold refNums
  first
    | (rw [h]; done)
    | (rw [h]; split <;> simp_all)
theorem refNums_none6 {ws : List (List UInt8)} (h : sigV (wAt ws 11) = none) : refNums ws = none := by
  unfold wAt at h
  unfold refNums
  first
    | (rw [h]; done)
    | (rw [h]; split <;> simp_all)
theorem refNums_some {ws : List (List UInt8)} {n0 n1 n2 n3 n4 n5 n6 : Int} (h0 : numV (wAt ws 1) = some n0) (h1 : numV (wAt ws 3) = some n1) (h2 : numV (wAt ws 5) = some n2) (h3 : sigV (wAt ws 7) = some n3) (h4 : sigV (wAt ws 8) = some n4) (h5 : sigV (wAt ws 10) = some n5) (h6 : sigV (wAt ws 11) = some n6) : refNums ws = some ⟨n0, false, n1, n2, n3, n4, n5, n6⟩ := by
  unfold wAt at *
  unfold refNums
  rw [h0, h1, h2, h3, h4, h5, h6]
set_option maxRecDepth 100000 in
set_option maxHeartbeats 4000000 in
theorem rparse_any (s : List UInt8) (hs : s.length ≤ 8796093022000) (w : World) :
    Calls Tryz.prog 23 #[.string ⟨s.toArray⟩] w fun e w' => e = ParseEnd (parseN s) (parseE s) ∧ Below w.heap.size w w' := by
  have HSZ : Hid (∀ i, (wAt (wordsL s) i).length ≤ 8796093022000) := show ∀ _, _ from fun i => by
    unfold wAt
    by_cases hi : i < (wordsL s).length
    · rw [List.getD_eq_getElem?_getD, List.getElem?_eq_getElem hi]
      exact Nat.le_trans (words_bound s _ (List.getElem_mem hi)) hs
    · rw [List.getD_eq_getElem?_getD, List.getElem?_eq_none (by omega)]; simp
  have HNE := Lib.hid (wordsL_ne s)
  have HWD := Lib.hid (fun W => rwords_list s hs W)
  have HNONE : Hid (formV (wordsL s) = none → .returned (.tuple #[.agg #[.int .i64 0, .bool false, .int .i64 0, .int .i64 0, .int .i64 0, .int .i64 0, .int .i64 0, .int .i64 0], .int .i64 6]) = ParseEnd (parseN s) (parseE s)) := show _ → _ = _ from fun h => by
    rw [(parse_none h).1, (parse_none h).2]; rfl
  have HRNG : Hid (∀ x, formV (wordsL s) = some x → rangeB x = true → .returned (.tuple #[.agg #[.int .i64 0, .bool false, .int .i64 0, .int .i64 0, .int .i64 0, .int .i64 0, .int .i64 0, .int .i64 0], .int .i64 7]) = ParseEnd (parseN s) (parseE s)) := show ∀ _, _ → _ → _ = _ from fun x h h2 => by
    rw [(parse_some h).1, (parse_some h).2, if_pos h2, if_pos h2]; rfl
  have HOK : Hid (∀ x, formV (wordsL s) = some x → rangeB x = false → .returned (.tuple #[.agg #[.int .i64 x.n, .bool x.c, .int .i64 x.f, .int .i64 x.u, .int .i64 x.xl, .int .i64 x.xh, .int .i64 x.yl, .int .i64 x.yh], .int .i64 0]) = ParseEnd (parseN s) (parseE s)) := show ∀ _, _ → _ → _ = _ from fun x h h2 => by
    rw [(parse_some h).1, (parse_some h).2, if_neg (by rw [h2]; simp), if_neg (by rw [h2]; simp)]; rfl
  have HNUM : Hid (∀ i W, Calls Tryz.prog 78 #[.string ⟨(wAt (wordsL s) i).toArray⟩] W fun e w' => e = .returned (.tuple #[.int .i64 (tupV (numV (wAt (wordsL s) i))).1, .bool (tupV (numV (wAt (wordsL s) i))).2]) ∧ W = w') := show ∀ _ _, _ from fun i W => rnumber_any ⟨(wAt (wordsL s) i).toArray⟩ (by have := HSZ.out i; simpa [ByteArray.size] using this) W
  have HSIG : Hid (∀ i W, Calls Tryz.prog 79 #[.string ⟨(wAt (wordsL s) i).toArray⟩] W fun e w' => e = .returned (.tuple #[.int .i64 (tupV (sigV (wAt (wordsL s) i))).1, .bool (tupV (sigV (wAt (wordsL s) i))).2]) ∧ W = w') := show ∀ _ _, _ from fun i W => rsigned_any ⟨(wAt (wordsL s) i).toArray⟩ (by have := HSZ.out i; simpa [ByteArray.size] using this) W
  clear HSZ
  generalize ParseEnd (parseN s) (parseE s) = PEND at *
  generalize wordsL s = ws at *
  by_cases hc : ws.length = 2 ∧ wAt ws 0 = wCANCEL
  · obtain ⟨hc1, hc2⟩ := hc
    have HFC : Hid (formV ws = match numV (wAt ws 1) with | some n => some ⟨n, true, 0, 0, 0, 0, 0, 0⟩ | none => none) := show _ = _ from form_cancel (by
      unfold wAt at *
      match ws, hc1, hc2 with
      | [a, b], _, h => simp at h; subst h; rfl)
    have HN0 := HNUM.out 1
    generalize ht0 : tupV (numV (wAt ws 1)) = t0 at HN0
    obtain ⟨n0, b0⟩ := t0
    have HB0 := Lib.hid (tup_cases ht0).1
    have HT0 := Lib.hid (tup_cases ht0).2
    have HN0 := Lib.hid HN0
    clear ht0
    simp only at HN0
    go_enter Tryz.func23, Tryz.ntmps23
    go_wp2_with fail
    have hX := cellsNew w #[.int .i64 0, .bool false, .int .i64 0, .int .i64 0, .int .i64 0, .int .i64 0, .int .i64 0, .int .i64 0] 33
    have hB : Below w.heap.size w (w.alloc (.cells #[.int .i64 0, .bool false, .int .i64 0, .int .i64 0, .int .i64 0, .int .i64 0, .int .i64 0, .int .i64 0] 33)) := (by repeat (first | exact Below.refl _ _ | assumption | refine balloc ?_ _ | refine below_trans ?_ (by assumption) | refine Below.drew ?_ | refine below_drewN ?_ _ | refine Below.setCell ?_ (by simp <;> omega) _))
    generalize w.alloc (.cells #[.int .i64 0, .bool false, .int .i64 0, .int .i64 0, .int .i64 0, .int .i64 0, .int .i64 0, .int .i64 0] 33) = W0 at *
    refine (HWD.out W0).mono ?_
    rintro e w1 ⟨v, rfl, hrow, hb1⟩
    obtain ⟨g, c, rfl, hg0, hgc⟩ := row_words hrow HNE.out
    have hX := hX.below hb1
    have hB := below_trans hB hb1
    obtain ⟨z0, z1, z2, z3, z4, z5, z6, z7⟩ := cells8 hX
    have f0 := hX.frozen 0
    have f1 := hX.frozen 1
    have f2 := hX.frozen 2
    have f3 := hX.frozen 3
    have f4 := hX.frozen 4
    have f5 := hX.frozen 5
    have f6 := hX.frozen 6
    have f7 := hX.frozen 7
    clear hrow hb1
    have c0 : w1.cell? ⟨g, 0, none⟩ = some (.string ⟨#[67, 65, 78, 67, 69, 76]⟩) := by rw [hgc 0 (by omega), hc2]; rfl
    have c1 := hgc 1 (by omega)
    rw [hc1]
    clear hc1 hc2 hgc
    go_wp2_with fail
    refine (HN0.out _).mono ?_
    rintro e w2 ⟨rfl, rfl⟩
    cases b0 with
    | false =>
      go_wp2_with (go_at_call 69; refine (in_any _ _ _ _).mono ?_; rintro e w' ⟨rfl, rfl⟩)
      refine bodyPost_ret (v := .tuple #[.agg #[.int .i64 0, .bool false, .int .i64 0, .int .i64 0, .int .i64 0, .int .i64 0, .int .i64 0, .int .i64 0], .int .i64 6]) (by simp [results, Tryz.results23, go_sem, z0, z1, z2, z3, z4, z5, z6, z7]) rfl ⟨HNONE.out (by rw [HFC.out, HB0.out (by simp)]), ?_⟩
      exact (Below.setCell (Below.setCell (Below.setCell (Below.setCell (Below.setCell (Below.setCell (Below.setCell (Below.setCell hB (by show w.heap.size ≤ w.heap.size; omega) _) (by show w.heap.size ≤ w.heap.size; omega) _) (by show w.heap.size ≤ w.heap.size; omega) _) (by show w.heap.size ≤ w.heap.size; omega) _) (by show w.heap.size ≤ w.heap.size; omega) _) (by show w.heap.size ≤ w.heap.size; omega) _) (by show w.heap.size ≤ w.heap.size; omega) _) (by show w.heap.size ≤ w.heap.size; omega) _)
    | true =>
      have HSM : Hid (formV ws = some ⟨n0, true, 0, 0, 0, 0, 0, 0⟩) := show _ = _ from by rw [HFC.out, HT0.out (by simp)]
      cases q0 : outB n0 1 9999 with
      | true =>
        go_wp2_with (go_at_call 69; refine (in_any _ _ _ _).mono ?_; rintro e w' ⟨rfl, rfl⟩)
        refine bodyPost_ret (v := .tuple #[.agg #[.int .i64 0, .bool false, .int .i64 0, .int .i64 0, .int .i64 0, .int .i64 0, .int .i64 0, .int .i64 0], .int .i64 7]) (by simp [results, Tryz.results23, go_sem, z0, z1, z2, z3, z4, z5, z6, z7]) rfl ⟨HRNG.out _ HSM.out (by rw [range_cancel]; exact q0), ?_⟩
        exact (Below.setCell (Below.setCell (Below.setCell (Below.setCell (Below.setCell (Below.setCell (Below.setCell (Below.setCell hB (by show w.heap.size ≤ w.heap.size; omega) _) (by show w.heap.size ≤ w.heap.size; omega) _) (by show w.heap.size ≤ w.heap.size; omega) _) (by show w.heap.size ≤ w.heap.size; omega) _) (by show w.heap.size ≤ w.heap.size; omega) _) (by show w.heap.size ≤ w.heap.size; omega) _) (by show w.heap.size ≤ w.heap.size; omega) _) (by show w.heap.size ≤ w.heap.size; omega) _)
      | false =>
        go_wp2_with (go_at_call 69; refine (in_any _ _ _ _).mono ?_; rintro e w' ⟨rfl, rfl⟩)
        refine bodyPost_ret (v := .tuple #[.agg #[.int .i64 n0, .bool true, .int .i64 0, .int .i64 0, .int .i64 0, .int .i64 0, .int .i64 0, .int .i64 0], .int .i64 0]) (by simp [results, Tryz.results23, go_sem, z0, z1, z2, z3, z4, z5, z6, z7]) rfl ⟨HOK.out _ HSM.out (by rw [range_cancel]; exact q0), ?_⟩
        exact (Below.setCell (Below.setCell (Below.setCell (Below.setCell (Below.setCell (Below.setCell (Below.setCell (Below.setCell hB (by show w.heap.size ≤ w.heap.size; omega) _) (by show w.heap.size ≤ w.heap.size; omega) _) (by show w.heap.size ≤ w.heap.size; omega) _) (by show w.heap.size ≤ w.heap.size; omega) _) (by show w.heap.size ≤ w.heap.size; omega) _) (by show w.heap.size ≤ w.heap.size; omega) _) (by show w.heap.size ≤ w.heap.size; omega) _) (by show w.heap.size ≤ w.heap.size; omega) _)
  · have HFO := Lib.hid (form_other hc)
    cases hl : refLong ws with
    | true =>
      have HN : Hid (formV ws = none) := show _ = _ from by rw [HFO.out, if_pos hl]
      clear HRNG HOK HNUM HSIG HFO
      by_cases h12 : ws.length = 12
      · skip
        by_cases r0 : wAt ws 0 = wNOTICE
        · skip
          by_cases r2 : wAt ws 2 = wFROM
          · skip
            by_cases r4 : wAt ws 4 = wUNTIL
            · skip
              by_cases r6 : wAt ws 6 = wX
              · skip
                by_cases r9 : wAt ws 9 = wY
                · skip
                  exfalso
                  change (ws.length != 12 || wAt ws 0 != wNOTICE || wAt ws 2 != wFROM || wAt ws 4 != wUNTIL || wAt ws 6 != wX || wAt ws 9 != wY) = true at hl
                  rw [h12, r0, r2, r4, r6, r9] at hl
                  simp at hl
                · skip
                  go_enter Tryz.func23, Tryz.ntmps23
                  go_wp2_with fail
                  have hX := cellsNew w #[.int .i64 0, .bool false, .int .i64 0, .int .i64 0, .int .i64 0, .int .i64 0, .int .i64 0, .int .i64 0] 33
                  have hB : Below w.heap.size w (w.alloc (.cells #[.int .i64 0, .bool false, .int .i64 0, .int .i64 0, .int .i64 0, .int .i64 0, .int .i64 0, .int .i64 0] 33)) := (by repeat (first | exact Below.refl _ _ | assumption | refine balloc ?_ _ | refine below_trans ?_ (by assumption) | refine Below.drew ?_ | refine below_drewN ?_ _ | refine Below.setCell ?_ (by simp <;> omega) _))
                  generalize w.alloc (.cells #[.int .i64 0, .bool false, .int .i64 0, .int .i64 0, .int .i64 0, .int .i64 0, .int .i64 0, .int .i64 0] 33) = W0 at *
                  refine (HWD.out W0).mono ?_
                  rintro e w1 ⟨v, rfl, hrow, hb1⟩
                  obtain ⟨g, c, rfl, hg0, hgc⟩ := row_words hrow HNE.out
                  have hX := hX.below hb1
                  have hB := below_trans hB hb1
                  obtain ⟨z0, z1, z2, z3, z4, z5, z6, z7⟩ := cells8 hX
                  have f0 := hX.frozen 0
                  have f1 := hX.frozen 1
                  have f2 := hX.frozen 2
                  have f3 := hX.frozen 3
                  have f4 := hX.frozen 4
                  have f5 := hX.frozen 5
                  have f6 := hX.frozen 6
                  have f7 := hX.frozen 7
                  clear hrow hb1
                  have c0 : w1.cell? ⟨g, 0, none⟩ = some (.string ⟨#[78, 79, 84, 73, 67, 69]⟩) := by rw [hgc 0 (by omega), r0]; rfl
                  have c2 : w1.cell? ⟨g, 2, none⟩ = some (.string ⟨#[70, 82, 79, 77]⟩) := by rw [hgc 2 (by omega), r2]; rfl
                  have c4 : w1.cell? ⟨g, 4, none⟩ = some (.string ⟨#[85, 78, 84, 73, 76]⟩) := by rw [hgc 4 (by omega), r4]; rfl
                  have c6 : w1.cell? ⟨g, 6, none⟩ = some (.string ⟨#[88]⟩) := by rw [hgc 6 (by omega), r6]; rfl
                  have c9 := hgc 9 (by omega)
                  rw [h12]
                  clear hgc h12 hc hl r0 r2 r4 r6
                  have hd : (wAt ws 9 == [89]) = false := beq_eq_false_iff_ne.2 (show wAt ws 9 ≠ [89] from r9)
                  have hd2 : (!wAt ws 9 == [89]) = true := by rw [hd]; rfl
                  clear r9
                  go_wp2_with (go_at_call 69; refine (in_any _ _ _ _).mono ?_; rintro e w' ⟨rfl, rfl⟩)
                  refine bodyPost_ret (v := .tuple #[.agg #[.int .i64 0, .bool false, .int .i64 0, .int .i64 0, .int .i64 0, .int .i64 0, .int .i64 0, .int .i64 0], .int .i64 6]) (by simp [results, Tryz.results23, go_sem, z0, z1, z2, z3, z4, z5, z6, z7]) rfl ⟨HNONE.out HN.out, ?_⟩
                  exact (Below.setCell (Below.setCell (Below.setCell (Below.setCell (Below.setCell (Below.setCell (Below.setCell (Below.setCell hB (by show w.heap.size ≤ w.heap.size; omega) _) (by show w.heap.size ≤ w.heap.size; omega) _) (by show w.heap.size ≤ w.heap.size; omega) _) (by show w.heap.size ≤ w.heap.size; omega) _) (by show w.heap.size ≤ w.heap.size; omega) _) (by show w.heap.size ≤ w.heap.size; omega) _) (by show w.heap.size ≤ w.heap.size; omega) _) (by show w.heap.size ≤ w.heap.size; omega) _)
              · skip
                go_enter Tryz.func23, Tryz.ntmps23
                go_wp2_with fail
                have hX := cellsNew w #[.int .i64 0, .bool false, .int .i64 0, .int .i64 0, .int .i64 0, .int .i64 0, .int .i64 0, .int .i64 0] 33
                have hB : Below w.heap.size w (w.alloc (.cells #[.int .i64 0, .bool false, .int .i64 0, .int .i64 0, .int .i64 0, .int .i64 0, .int .i64 0, .int .i64 0] 33)) := (by repeat (first | exact Below.refl _ _ | assumption | refine balloc ?_ _ | refine below_trans ?_ (by assumption) | refine Below.drew ?_ | refine below_drewN ?_ _ | refine Below.setCell ?_ (by simp <;> omega) _))
                generalize w.alloc (.cells #[.int .i64 0, .bool false, .int .i64 0, .int .i64 0, .int .i64 0, .int .i64 0, .int .i64 0, .int .i64 0] 33) = W0 at *
                refine (HWD.out W0).mono ?_
                rintro e w1 ⟨v, rfl, hrow, hb1⟩
                obtain ⟨g, c, rfl, hg0, hgc⟩ := row_words hrow HNE.out
                have hX := hX.below hb1
                have hB := below_trans hB hb1
                obtain ⟨z0, z1, z2, z3, z4, z5, z6, z7⟩ := cells8 hX
                have f0 := hX.frozen 0
                have f1 := hX.frozen 1
                have f2 := hX.frozen 2
                have f3 := hX.frozen 3
                have f4 := hX.frozen 4
                have f5 := hX.frozen 5
                have f6 := hX.frozen 6
                have f7 := hX.frozen 7
                clear hrow hb1
                have c0 : w1.cell? ⟨g, 0, none⟩ = some (.string ⟨#[78, 79, 84, 73, 67, 69]⟩) := by rw [hgc 0 (by omega), r0]; rfl
                have c2 : w1.cell? ⟨g, 2, none⟩ = some (.string ⟨#[70, 82, 79, 77]⟩) := by rw [hgc 2 (by omega), r2]; rfl
                have c4 : w1.cell? ⟨g, 4, none⟩ = some (.string ⟨#[85, 78, 84, 73, 76]⟩) := by rw [hgc 4 (by omega), r4]; rfl
                have c6 := hgc 6 (by omega)
                rw [h12]
                clear hgc h12 hc hl r0 r2 r4
                have hd : (wAt ws 6 == [88]) = false := beq_eq_false_iff_ne.2 (show wAt ws 6 ≠ [88] from r6)
                have hd2 : (!wAt ws 6 == [88]) = true := by rw [hd]; rfl
                clear r6
                go_wp2_with (go_at_call 69; refine (in_any _ _ _ _).mono ?_; rintro e w' ⟨rfl, rfl⟩)
                refine bodyPost_ret (v := .tuple #[.agg #[.int .i64 0, .bool false, .int .i64 0, .int .i64 0, .int .i64 0, .int .i64 0, .int .i64 0, .int .i64 0], .int .i64 6]) (by simp [results, Tryz.results23, go_sem, z0, z1, z2, z3, z4, z5, z6, z7]) rfl ⟨HNONE.out HN.out, ?_⟩
                exact (Below.setCell (Below.setCell (Below.setCell (Below.setCell (Below.setCell (Below.setCell (Below.setCell (Below.setCell hB (by show w.heap.size ≤ w.heap.size; omega) _) (by show w.heap.size ≤ w.heap.size; omega) _) (by show w.heap.size ≤ w.heap.size; omega) _) (by show w.heap.size ≤ w.heap.size; omega) _) (by show w.heap.size ≤ w.heap.size; omega) _) (by show w.heap.size ≤ w.heap.size; omega) _) (by show w.heap.size ≤ w.heap.size; omega) _) (by show w.heap.size ≤ w.heap.size; omega) _)
            · skip
              go_enter Tryz.func23, Tryz.ntmps23
              go_wp2_with fail
              have hX := cellsNew w #[.int .i64 0, .bool false, .int .i64 0, .int .i64 0, .int .i64 0, .int .i64 0, .int .i64 0, .int .i64 0] 33
              have hB : Below w.heap.size w (w.alloc (.cells #[.int .i64 0, .bool false, .int .i64 0, .int .i64 0, .int .i64 0, .int .i64 0, .int .i64 0, .int .i64 0] 33)) := (by repeat (first | exact Below.refl _ _ | assumption | refine balloc ?_ _ | refine below_trans ?_ (by assumption) | refine Below.drew ?_ | refine below_drewN ?_ _ | refine Below.setCell ?_ (by simp <;> omega) _))
              generalize w.alloc (.cells #[.int .i64 0, .bool false, .int .i64 0, .int .i64 0, .int .i64 0, .int .i64 0, .int .i64 0, .int .i64 0] 33) = W0 at *
              refine (HWD.out W0).mono ?_
              rintro e w1 ⟨v, rfl, hrow, hb1⟩
              obtain ⟨g, c, rfl, hg0, hgc⟩ := row_words hrow HNE.out
              have hX := hX.below hb1
              have hB := below_trans hB hb1
              obtain ⟨z0, z1, z2, z3, z4, z5, z6, z7⟩ := cells8 hX
              have f0 := hX.frozen 0
              have f1 := hX.frozen 1
              have f2 := hX.frozen 2
              have f3 := hX.frozen 3
              have f4 := hX.frozen 4
              have f5 := hX.frozen 5
              have f6 := hX.frozen 6
              have f7 := hX.frozen 7
              clear hrow hb1
              have c0 : w1.cell? ⟨g, 0, none⟩ = some (.string ⟨#[78, 79, 84, 73, 67, 69]⟩) := by rw [hgc 0 (by omega), r0]; rfl
              have c2 : w1.cell? ⟨g, 2, none⟩ = some (.string ⟨#[70, 82, 79, 77]⟩) := by rw [hgc 2 (by omega), r2]; rfl
              have c4 := hgc 4 (by omega)
              rw [h12]
              clear hgc h12 hc hl r0 r2
              have hd : (wAt ws 4 == [85, 78, 84, 73, 76]) = false := beq_eq_false_iff_ne.2 (show wAt ws 4 ≠ [85, 78, 84, 73, 76] from r4)
              have hd2 : (!wAt ws 4 == [85, 78, 84, 73, 76]) = true := by rw [hd]; rfl
              clear r4
              go_wp2_with (go_at_call 69; refine (in_any _ _ _ _).mono ?_; rintro e w' ⟨rfl, rfl⟩)
              refine bodyPost_ret (v := .tuple #[.agg #[.int .i64 0, .bool false, .int .i64 0, .int .i64 0, .int .i64 0, .int .i64 0, .int .i64 0, .int .i64 0], .int .i64 6]) (by simp [results, Tryz.results23, go_sem, z0, z1, z2, z3, z4, z5, z6, z7]) rfl ⟨HNONE.out HN.out, ?_⟩
              exact (Below.setCell (Below.setCell (Below.setCell (Below.setCell (Below.setCell (Below.setCell (Below.setCell (Below.setCell hB (by show w.heap.size ≤ w.heap.size; omega) _) (by show w.heap.size ≤ w.heap.size; omega) _) (by show w.heap.size ≤ w.heap.size; omega) _) (by show w.heap.size ≤ w.heap.size; omega) _) (by show w.heap.size ≤ w.heap.size; omega) _) (by show w.heap.size ≤ w.heap.size; omega) _) (by show w.heap.size ≤ w.heap.size; omega) _) (by show w.heap.size ≤ w.heap.size; omega) _)
          · skip
            go_enter Tryz.func23, Tryz.ntmps23
            go_wp2_with fail
            have hX := cellsNew w #[.int .i64 0, .bool false, .int .i64 0, .int .i64 0, .int .i64 0, .int .i64 0, .int .i64 0, .int .i64 0] 33
            have hB : Below w.heap.size w (w.alloc (.cells #[.int .i64 0, .bool false, .int .i64 0, .int .i64 0, .int .i64 0, .int .i64 0, .int .i64 0, .int .i64 0] 33)) := (by repeat (first | exact Below.refl _ _ | assumption | refine balloc ?_ _ | refine below_trans ?_ (by assumption) | refine Below.drew ?_ | refine below_drewN ?_ _ | refine Below.setCell ?_ (by simp <;> omega) _))
            generalize w.alloc (.cells #[.int .i64 0, .bool false, .int .i64 0, .int .i64 0, .int .i64 0, .int .i64 0, .int .i64 0, .int .i64 0] 33) = W0 at *
            refine (HWD.out W0).mono ?_
            rintro e w1 ⟨v, rfl, hrow, hb1⟩
            obtain ⟨g, c, rfl, hg0, hgc⟩ := row_words hrow HNE.out
            have hX := hX.below hb1
            have hB := below_trans hB hb1
            obtain ⟨z0, z1, z2, z3, z4, z5, z6, z7⟩ := cells8 hX
            have f0 := hX.frozen 0
            have f1 := hX.frozen 1
            have f2 := hX.frozen 2
            have f3 := hX.frozen 3
            have f4 := hX.frozen 4
            have f5 := hX.frozen 5
            have f6 := hX.frozen 6
            have f7 := hX.frozen 7
            clear hrow hb1
            have c0 : w1.cell? ⟨g, 0, none⟩ = some (.string ⟨#[78, 79, 84, 73, 67, 69]⟩) := by rw [hgc 0 (by omega), r0]; rfl
            have c2 := hgc 2 (by omega)
            rw [h12]
            clear hgc h12 hc hl r0
            have hd : (wAt ws 2 == [70, 82, 79, 77]) = false := beq_eq_false_iff_ne.2 (show wAt ws 2 ≠ [70, 82, 79, 77] from r2)
            have hd2 : (!wAt ws 2 == [70, 82, 79, 77]) = true := by rw [hd]; rfl
            clear r2
            go_wp2_with (go_at_call 69; refine (in_any _ _ _ _).mono ?_; rintro e w' ⟨rfl, rfl⟩)
            refine bodyPost_ret (v := .tuple #[.agg #[.int .i64 0, .bool false, .int .i64 0, .int .i64 0, .int .i64 0, .int .i64 0, .int .i64 0, .int .i64 0], .int .i64 6]) (by simp [results, Tryz.results23, go_sem, z0, z1, z2, z3, z4, z5, z6, z7]) rfl ⟨HNONE.out HN.out, ?_⟩
            exact (Below.setCell (Below.setCell (Below.setCell (Below.setCell (Below.setCell (Below.setCell (Below.setCell (Below.setCell hB (by show w.heap.size ≤ w.heap.size; omega) _) (by show w.heap.size ≤ w.heap.size; omega) _) (by show w.heap.size ≤ w.heap.size; omega) _) (by show w.heap.size ≤ w.heap.size; omega) _) (by show w.heap.size ≤ w.heap.size; omega) _) (by show w.heap.size ≤ w.heap.size; omega) _) (by show w.heap.size ≤ w.heap.size; omega) _) (by show w.heap.size ≤ w.heap.size; omega) _)
        · skip
          go_enter Tryz.func23, Tryz.ntmps23
          go_wp2_with fail
          have hX := cellsNew w #[.int .i64 0, .bool false, .int .i64 0, .int .i64 0, .int .i64 0, .int .i64 0, .int .i64 0, .int .i64 0] 33
          have hB : Below w.heap.size w (w.alloc (.cells #[.int .i64 0, .bool false, .int .i64 0, .int .i64 0, .int .i64 0, .int .i64 0, .int .i64 0, .int .i64 0] 33)) := (by repeat (first | exact Below.refl _ _ | assumption | refine balloc ?_ _ | refine below_trans ?_ (by assumption) | refine Below.drew ?_ | refine below_drewN ?_ _ | refine Below.setCell ?_ (by simp <;> omega) _))
          generalize w.alloc (.cells #[.int .i64 0, .bool false, .int .i64 0, .int .i64 0, .int .i64 0, .int .i64 0, .int .i64 0, .int .i64 0] 33) = W0 at *
          refine (HWD.out W0).mono ?_
          rintro e w1 ⟨v, rfl, hrow, hb1⟩
          obtain ⟨g, c, rfl, hg0, hgc⟩ := row_words hrow HNE.out
          have hX := hX.below hb1
          have hB := below_trans hB hb1
          obtain ⟨z0, z1, z2, z3, z4, z5, z6, z7⟩ := cells8 hX
          have f0 := hX.frozen 0
          have f1 := hX.frozen 1
          have f2 := hX.frozen 2
          have f3 := hX.frozen 3
          have f4 := hX.frozen 4
          have f5 := hX.frozen 5
          have f6 := hX.frozen 6
          have f7 := hX.frozen 7
          clear hrow hb1
          have c0 := hgc 0 (by omega)
          rw [h12]
          clear hgc h12 hc hl 
          have hd : (wAt ws 0 == [78, 79, 84, 73, 67, 69]) = false := beq_eq_false_iff_ne.2 (show wAt ws 0 ≠ [78, 79, 84, 73, 67, 69] from r0)
          have hd2 : (!wAt ws 0 == [78, 79, 84, 73, 67, 69]) = true := by rw [hd]; rfl
          clear r0
          go_wp2_with (go_at_call 69; refine (in_any _ _ _ _).mono ?_; rintro e w' ⟨rfl, rfl⟩)
          refine bodyPost_ret (v := .tuple #[.agg #[.int .i64 0, .bool false, .int .i64 0, .int .i64 0, .int .i64 0, .int .i64 0, .int .i64 0, .int .i64 0], .int .i64 6]) (by simp [results, Tryz.results23, go_sem, z0, z1, z2, z3, z4, z5, z6, z7]) rfl ⟨HNONE.out HN.out, ?_⟩
          exact (Below.setCell (Below.setCell (Below.setCell (Below.setCell (Below.setCell (Below.setCell (Below.setCell (Below.setCell hB (by show w.heap.size ≤ w.heap.size; omega) _) (by show w.heap.size ≤ w.heap.size; omega) _) (by show w.heap.size ≤ w.heap.size; omega) _) (by show w.heap.size ≤ w.heap.size; omega) _) (by show w.heap.size ≤ w.heap.size; omega) _) (by show w.heap.size ≤ w.heap.size; omega) _) (by show w.heap.size ≤ w.heap.size; omega) _) (by show w.heap.size ≤ w.heap.size; omega) _)
      · by_cases h2 : ws.length = 2
        · have h0 : ¬ wAt ws 0 = wCANCEL := fun h => hc ⟨h2, h⟩
          go_enter Tryz.func23, Tryz.ntmps23
          go_wp2_with fail
          have hX := cellsNew w #[.int .i64 0, .bool false, .int .i64 0, .int .i64 0, .int .i64 0, .int .i64 0, .int .i64 0, .int .i64 0] 33
          have hB : Below w.heap.size w (w.alloc (.cells #[.int .i64 0, .bool false, .int .i64 0, .int .i64 0, .int .i64 0, .int .i64 0, .int .i64 0, .int .i64 0] 33)) := (by repeat (first | exact Below.refl _ _ | assumption | refine balloc ?_ _ | refine below_trans ?_ (by assumption) | refine Below.drew ?_ | refine below_drewN ?_ _ | refine Below.setCell ?_ (by simp <;> omega) _))
          generalize w.alloc (.cells #[.int .i64 0, .bool false, .int .i64 0, .int .i64 0, .int .i64 0, .int .i64 0, .int .i64 0, .int .i64 0] 33) = W0 at *
          refine (HWD.out W0).mono ?_
          rintro e w1 ⟨v, rfl, hrow, hb1⟩
          obtain ⟨g, c, rfl, hg0, hgc⟩ := row_words hrow HNE.out
          have hX := hX.below hb1
          have hB := below_trans hB hb1
          obtain ⟨z0, z1, z2, z3, z4, z5, z6, z7⟩ := cells8 hX
          have f0 := hX.frozen 0
          have f1 := hX.frozen 1
          have f2 := hX.frozen 2
          have f3 := hX.frozen 3
          have f4 := hX.frozen 4
          have f5 := hX.frozen 5
          have f6 := hX.frozen 6
          have f7 := hX.frozen 7
          clear hrow hb1
          have c0 := hgc 0 (by omega)
          rw [h2]
          have hd : (wAt ws 0 == [67, 65, 78, 67, 69, 76]) = false := beq_eq_false_iff_ne.2 (show wAt ws 0 ≠ [67, 65, 78, 67, 69, 76] from h0)
          have hd2 : (!wAt ws 0 == [67, 65, 78, 67, 69, 76]) = true := by rw [hd]; rfl
          clear hgc h2 h12 hc hl h0
          go_wp2_with (go_at_call 69; refine (in_any _ _ _ _).mono ?_; rintro e w' ⟨rfl, rfl⟩)
          refine bodyPost_ret (v := .tuple #[.agg #[.int .i64 0, .bool false, .int .i64 0, .int .i64 0, .int .i64 0, .int .i64 0, .int .i64 0, .int .i64 0], .int .i64 6]) (by simp [results, Tryz.results23, go_sem, z0, z1, z2, z3, z4, z5, z6, z7]) rfl ⟨HNONE.out HN.out, ?_⟩
          exact (Below.setCell (Below.setCell (Below.setCell (Below.setCell (Below.setCell (Below.setCell (Below.setCell (Below.setCell hB (by show w.heap.size ≤ w.heap.size; omega) _) (by show w.heap.size ≤ w.heap.size; omega) _) (by show w.heap.size ≤ w.heap.size; omega) _) (by show w.heap.size ≤ w.heap.size; omega) _) (by show w.heap.size ≤ w.heap.size; omega) _) (by show w.heap.size ≤ w.heap.size; omega) _) (by show w.heap.size ≤ w.heap.size; omega) _) (by show w.heap.size ≤ w.heap.size; omega) _)
        · skip
          go_enter Tryz.func23, Tryz.ntmps23
          go_wp2_with fail
          have hX := cellsNew w #[.int .i64 0, .bool false, .int .i64 0, .int .i64 0, .int .i64 0, .int .i64 0, .int .i64 0, .int .i64 0] 33
          have hB : Below w.heap.size w (w.alloc (.cells #[.int .i64 0, .bool false, .int .i64 0, .int .i64 0, .int .i64 0, .int .i64 0, .int .i64 0, .int .i64 0] 33)) := (by repeat (first | exact Below.refl _ _ | assumption | refine balloc ?_ _ | refine below_trans ?_ (by assumption) | refine Below.drew ?_ | refine below_drewN ?_ _ | refine Below.setCell ?_ (by simp <;> omega) _))
          generalize w.alloc (.cells #[.int .i64 0, .bool false, .int .i64 0, .int .i64 0, .int .i64 0, .int .i64 0, .int .i64 0, .int .i64 0] 33) = W0 at *
          refine (HWD.out W0).mono ?_
          rintro e w1 ⟨v, rfl, hrow, hb1⟩
          obtain ⟨g, c, rfl, hg0, hgc⟩ := row_words hrow HNE.out
          have hX := hX.below hb1
          have hB := below_trans hB hb1
          obtain ⟨z0, z1, z2, z3, z4, z5, z6, z7⟩ := cells8 hX
          have f0 := hX.frozen 0
          have f1 := hX.frozen 1
          have f2 := hX.frozen 2
          have f3 := hX.frozen 3
          have f4 := hX.frozen 4
          have f5 := hX.frozen 5
          have f6 := hX.frozen 6
          have f7 := hX.frozen 7
          clear hrow hb1
          have q2 : ((ws.length : Int) == 2) = false := beq_eq_false_iff_ne.2 (by omega)
          have q12 : ((ws.length : Int) == 12) = false := beq_eq_false_iff_ne.2 (by omega)
          have q12' : ((ws.length : Int) != 12) = true := bne_iff_ne.2 (by omega)
          clear hgc h2 h12 hc hl
          go_wp2_with (go_at_call 69; refine (in_any _ _ _ _).mono ?_; rintro e w' ⟨rfl, rfl⟩)
          refine bodyPost_ret (v := .tuple #[.agg #[.int .i64 0, .bool false, .int .i64 0, .int .i64 0, .int .i64 0, .int .i64 0, .int .i64 0, .int .i64 0], .int .i64 6]) (by simp [results, Tryz.results23, go_sem, z0, z1, z2, z3, z4, z5, z6, z7]) rfl ⟨HNONE.out HN.out, ?_⟩
          exact (Below.setCell (Below.setCell (Below.setCell (Below.setCell (Below.setCell (Below.setCell (Below.setCell (Below.setCell hB (by show w.heap.size ≤ w.heap.size; omega) _) (by show w.heap.size ≤ w.heap.size; omega) _) (by show w.heap.size ≤ w.heap.size; omega) _) (by show w.heap.size ≤ w.heap.size; omega) _) (by show w.heap.size ≤ w.heap.size; omega) _) (by show w.heap.size ≤ w.heap.size; omega) _) (by show w.heap.size ≤ w.heap.size; omega) _) (by show w.heap.size ≤ w.heap.size; omega) _)
    | false =>
      have HFORM : Hid (formV ws = refNums ws) := show _ = _ from by rw [HFO.out, if_neg (by rw [hl]; simp)]
      have hl2 := hl
      unfold refLong at hl2
      simp only [Bool.or_eq_false_iff, bne_eq_false_iff_eq] at hl2
      obtain ⟨⟨⟨⟨⟨h12, r0⟩, r2⟩, r4⟩, r6⟩, r9⟩ := hl2
      change wAt ws 0 = _ at r0
      change wAt ws 2 = _ at r2
      change wAt ws 4 = _ at r4
      change wAt ws 6 = _ at r6
      change wAt ws 9 = _ at r9
      have HN0 := HNUM.out 1
      generalize ht0 : tupV (numV (wAt ws 1)) = t0 at HN0
      obtain ⟨n0, b0⟩ := t0
      have HB0 := Lib.hid (tup_cases ht0).1
      have HT0 := Lib.hid (tup_cases ht0).2
      have HN0 := Lib.hid HN0
      clear ht0
      simp only at HN0
      have HN1 := HNUM.out 3
      generalize ht1 : tupV (numV (wAt ws 3)) = t1 at HN1
      obtain ⟨n1, b1⟩ := t1
      have HB1 := Lib.hid (tup_cases ht1).1
      have HT1 := Lib.hid (tup_cases ht1).2
      have HN1 := Lib.hid HN1
      clear ht1
      simp only at HN1
      have HN2 := HNUM.out 5
      generalize ht2 : tupV (numV (wAt ws 5)) = t2 at HN2
      obtain ⟨n2, b2⟩ := t2
      have HB2 := Lib.hid (tup_cases ht2).1
      have HT2 := Lib.hid (tup_cases ht2).2
      have HN2 := Lib.hid HN2
      clear ht2
      simp only at HN2
      have HN3 := HSIG.out 7
      generalize ht3 : tupV (sigV (wAt ws 7)) = t3 at HN3
      obtain ⟨n3, b3⟩ := t3
      have HB3 := Lib.hid (tup_cases ht3).1
      have HT3 := Lib.hid (tup_cases ht3).2
      have HN3 := Lib.hid HN3
      clear ht3
      simp only at HN3
      have HN4 := HSIG.out 8
      generalize ht4 : tupV (sigV (wAt ws 8)) = t4 at HN4
      obtain ⟨n4, b4⟩ := t4
      have HB4 := Lib.hid (tup_cases ht4).1
      have HT4 := Lib.hid (tup_cases ht4).2
      have HN4 := Lib.hid HN4
      clear ht4
      simp only at HN4
      have HN5 := HSIG.out 10
      generalize ht5 : tupV (sigV (wAt ws 10)) = t5 at HN5
      obtain ⟨n5, b5⟩ := t5
      have HB5 := Lib.hid (tup_cases ht5).1
      have HT5 := Lib.hid (tup_cases ht5).2
      have HN5 := Lib.hid HN5
      clear ht5
      simp only at HN5
      have HN6 := HSIG.out 11
      generalize ht6 : tupV (sigV (wAt ws 11)) = t6 at HN6
      obtain ⟨n6, b6⟩ := t6
      have HB6 := Lib.hid (tup_cases ht6).1
      have HT6 := Lib.hid (tup_cases ht6).2
      have HN6 := Lib.hid HN6
      clear ht6
      simp only at HN6
      clear HNUM HSIG HFO hl hc
      go_enter Tryz.func23, Tryz.ntmps23
      go_wp2_with fail
      have hX := cellsNew w #[.int .i64 0, .bool false, .int .i64 0, .int .i64 0, .int .i64 0, .int .i64 0, .int .i64 0, .int .i64 0] 33
      have hB : Below w.heap.size w (w.alloc (.cells #[.int .i64 0, .bool false, .int .i64 0, .int .i64 0, .int .i64 0, .int .i64 0, .int .i64 0, .int .i64 0] 33)) := (by repeat (first | exact Below.refl _ _ | assumption | refine balloc ?_ _ | refine below_trans ?_ (by assumption) | refine Below.drew ?_ | refine below_drewN ?_ _ | refine Below.setCell ?_ (by simp <;> omega) _))
      generalize w.alloc (.cells #[.int .i64 0, .bool false, .int .i64 0, .int .i64 0, .int .i64 0, .int .i64 0, .int .i64 0, .int .i64 0] 33) = W0 at *
      refine (HWD.out W0).mono ?_
      rintro e w1 ⟨v, rfl, hrow, hb1⟩
      obtain ⟨g, c, rfl, hg0, hgc⟩ := row_words hrow HNE.out
      have hX := hX.below hb1
      have hB := below_trans hB hb1
      obtain ⟨z0, z1, z2, z3, z4, z5, z6, z7⟩ := cells8 hX
      have f0 := hX.frozen 0
      have f1 := hX.frozen 1
      have f2 := hX.frozen 2
      have f3 := hX.frozen 3
      have f4 := hX.frozen 4
      have f5 := hX.frozen 5
      have f6 := hX.frozen 6
      have f7 := hX.frozen 7
      clear hrow hb1
      have c0 : w1.cell? ⟨g, 0, none⟩ = some (.string ⟨#[78, 79, 84, 73, 67, 69]⟩) := by rw [hgc 0 (by omega), r0]; rfl
      have c2 : w1.cell? ⟨g, 2, none⟩ = some (.string ⟨#[70, 82, 79, 77]⟩) := by rw [hgc 2 (by omega), r2]; rfl
      have c4 : w1.cell? ⟨g, 4, none⟩ = some (.string ⟨#[85, 78, 84, 73, 76]⟩) := by rw [hgc 4 (by omega), r4]; rfl
      have c6 : w1.cell? ⟨g, 6, none⟩ = some (.string ⟨#[88]⟩) := by rw [hgc 6 (by omega), r6]; rfl
      have c9 : w1.cell? ⟨g, 9, none⟩ = some (.string ⟨#[89]⟩) := by rw [hgc 9 (by omega), r9]; rfl
      have c1 := hgc 1 (by omega)
      have c3 := hgc 3 (by omega)
      have c5 := hgc 5 (by omega)
      have c7 := hgc 7 (by omega)
      have c8 := hgc 8 (by omega)
      have c10 := hgc 10 (by omega)
      have c11 := hgc 11 (by omega)
      rw [h12]
      clear hgc h12 r0 r2 r4 r6 r9
      go_wp2_with fail
      refine (HN0.out _).mono ?_
      rintro e w2 ⟨rfl, rfl⟩
      go_wp2_with fail
      refine (HN1.out _).mono ?_
      rintro e w3 ⟨rfl, rfl⟩
      go_wp2_with fail
      refine (HN2.out _).mono ?_
      rintro e w4 ⟨rfl, rfl⟩
      go_wp2_with fail
      refine (HN3.out _).mono ?_
      rintro e w5 ⟨rfl, rfl⟩
      go_wp2_with fail
      refine (HN4.out _).mono ?_
      rintro e w6 ⟨rfl, rfl⟩
      go_wp2_with fail
      refine (HN5.out _).mono ?_
      rintro e w7 ⟨rfl, rfl⟩
      go_wp2_with fail
      refine (HN6.out _).mono ?_
      rintro e w8 ⟨rfl, rfl⟩
      go_upto_region 18 with fail
      cases b0 with
      | false =>
        go_wp2_with (go_at_call 69; refine (in_any _ _ _ _).mono ?_; rintro e w' ⟨rfl, rfl⟩)
        refine bodyPost_ret (v := .tuple #[.agg #[.int .i64 0, .bool false, .int .i64 0, .int .i64 0, .int .i64 0, .int .i64 0, .int .i64 0, .int .i64 0], .int .i64 6]) (by simp [results, Tryz.results23, go_sem, z0, z1, z2, z3, z4, z5, z6, z7]) rfl ⟨HNONE.out (by rw [HFORM.out]; exact refNums_none0 (HB0.out (by simp))), ?_⟩
        exact (Below.setCell (Below.setCell (Below.setCell (Below.setCell (Below.setCell (Below.setCell (Below.setCell (Below.setCell hB (by show w.heap.size ≤ w.heap.size; omega) _) (by show w.heap.size ≤ w.heap.size; omega) _) (by show w.heap.size ≤ w.heap.size; omega) _) (by show w.heap.size ≤ w.heap.size; omega) _) (by show w.heap.size ≤ w.heap.size; omega) _) (by show w.heap.size ≤ w.heap.size; omega) _) (by show w.heap.size ≤ w.heap.size; omega) _) (by show w.heap.size ≤ w.heap.size; omega) _)
      | true =>
        cases b1 with
        | false =>
          go_wp2_with (go_at_call 69; refine (in_any _ _ _ _).mono ?_; rintro e w' ⟨rfl, rfl⟩)
          refine bodyPost_ret (v := .tuple #[.agg #[.int .i64 0, .bool false, .int .i64 0, .int .i64 0, .int .i64 0, .int .i64 0, .int .i64 0, .int .i64 0], .int .i64 6]) (by simp [results, Tryz.results23, go_sem, z0, z1, z2, z3, z4, z5, z6, z7]) rfl ⟨HNONE.out (by rw [HFORM.out]; exact refNums_none1 (HB1.out (by simp))), ?_⟩
          exact (Below.setCell (Below.setCell (Below.setCell (Below.setCell (Below.setCell (Below.setCell (Below.setCell (Below.setCell hB (by show w.heap.size ≤ w.heap.size; omega) _) (by show w.heap.size ≤ w.heap.size; omega) _) (by show w.heap.size ≤ w.heap.size; omega) _) (by show w.heap.size ≤ w.heap.size; omega) _) (by show w.heap.size ≤ w.heap.size; omega) _) (by show w.heap.size ≤ w.heap.size; omega) _) (by show w.heap.size ≤ w.heap.size; omega) _) (by show w.heap.size ≤ w.heap.size; omega) _)
        | true =>
          cases b2 with
          | false =>
            go_wp2_with (go_at_call 69; refine (in_any _ _ _ _).mono ?_; rintro e w' ⟨rfl, rfl⟩)
            refine bodyPost_ret (v := .tuple #[.agg #[.int .i64 0, .bool false, .int .i64 0, .int .i64 0, .int .i64 0, .int .i64 0, .int .i64 0, .int .i64 0], .int .i64 6]) (by simp [results, Tryz.results23, go_sem, z0, z1, z2, z3, z4, z5, z6, z7]) rfl ⟨HNONE.out (by rw [HFORM.out]; exact refNums_none2 (HB2.out (by simp))), ?_⟩
            exact (Below.setCell (Below.setCell (Below.setCell (Below.setCell (Below.setCell (Below.setCell (Below.setCell (Below.setCell hB (by show w.heap.size ≤ w.heap.size; omega) _) (by show w.heap.size ≤ w.heap.size; omega) _) (by show w.heap.size ≤ w.heap.size; omega) _) (by show w.heap.size ≤ w.heap.size; omega) _) (by show w.heap.size ≤ w.heap.size; omega) _) (by show w.heap.size ≤ w.heap.size; omega) _) (by show w.heap.size ≤ w.heap.size; omega) _) (by show w.heap.size ≤ w.heap.size; omega) _)
          | true =>
            cases b3 with
            | false =>
              go_wp2_with (go_at_call 69; refine (in_any _ _ _ _).mono ?_; rintro e w' ⟨rfl, rfl⟩)
              refine bodyPost_ret (v := .tuple #[.agg #[.int .i64 0, .bool false, .int .i64 0, .int .i64 0, .int .i64 0, .int .i64 0, .int .i64 0, .int .i64 0], .int .i64 6]) (by simp [results, Tryz.results23, go_sem, z0, z1, z2, z3, z4, z5, z6, z7]) rfl ⟨HNONE.out (by rw [HFORM.out]; exact refNums_none3 (HB3.out (by simp))), ?_⟩
              exact (Below.setCell (Below.setCell (Below.setCell (Below.setCell (Below.setCell (Below.setCell (Below.setCell (Below.setCell hB (by show w.heap.size ≤ w.heap.size; omega) _) (by show w.heap.size ≤ w.heap.size; omega) _) (by show w.heap.size ≤ w.heap.size; omega) _) (by show w.heap.size ≤ w.heap.size; omega) _) (by show w.heap.size ≤ w.heap.size; omega) _) (by show w.heap.size ≤ w.heap.size; omega) _) (by show w.heap.size ≤ w.heap.size; omega) _) (by show w.heap.size ≤ w.heap.size; omega) _)
            | true =>
              cases b4 with
              | false =>
                go_wp2_with (go_at_call 69; refine (in_any _ _ _ _).mono ?_; rintro e w' ⟨rfl, rfl⟩)
                refine bodyPost_ret (v := .tuple #[.agg #[.int .i64 0, .bool false, .int .i64 0, .int .i64 0, .int .i64 0, .int .i64 0, .int .i64 0, .int .i64 0], .int .i64 6]) (by simp [results, Tryz.results23, go_sem, z0, z1, z2, z3, z4, z5, z6, z7]) rfl ⟨HNONE.out (by rw [HFORM.out]; exact refNums_none4 (HB4.out (by simp))), ?_⟩
                exact (Below.setCell (Below.setCell (Below.setCell (Below.setCell (Below.setCell (Below.setCell (Below.setCell (Below.setCell hB (by show w.heap.size ≤ w.heap.size; omega) _) (by show w.heap.size ≤ w.heap.size; omega) _) (by show w.heap.size ≤ w.heap.size; omega) _) (by show w.heap.size ≤ w.heap.size; omega) _) (by show w.heap.size ≤ w.heap.size; omega) _) (by show w.heap.size ≤ w.heap.size; omega) _) (by show w.heap.size ≤ w.heap.size; omega) _) (by show w.heap.size ≤ w.heap.size; omega) _)
              | true =>
                cases b5 with
                | false =>
                  go_wp2_with (go_at_call 69; refine (in_any _ _ _ _).mono ?_; rintro e w' ⟨rfl, rfl⟩)
                  refine bodyPost_ret (v := .tuple #[.agg #[.int .i64 0, .bool false, .int .i64 0, .int .i64 0, .int .i64 0, .int .i64 0, .int .i64 0, .int .i64 0], .int .i64 6]) (by simp [results, Tryz.results23, go_sem, z0, z1, z2, z3, z4, z5, z6, z7]) rfl ⟨HNONE.out (by rw [HFORM.out]; exact refNums_none5 (HB5.out (by simp))), ?_⟩
                  exact (Below.setCell (Below.setCell (Below.setCell (Below.setCell (Below.setCell (Below.setCell (Below.setCell (Below.setCell hB (by show w.heap.size ≤ w.heap.size; omega) _) (by show w.heap.size ≤ w.heap.size; omega) _) (by show w.heap.size ≤ w.heap.size; omega) _) (by show w.heap.size ≤ w.heap.size; omega) _) (by show w.heap.size ≤ w.heap.size; omega) _) (by show w.heap.size ≤ w.heap.size; omega) _) (by show w.heap.size ≤ w.heap.size; omega) _) (by show w.heap.size ≤ w.heap.size; omega) _)
                | true =>
                  cases b6 with
                  | false =>
                    go_wp2_with (go_at_call 69; refine (in_any _ _ _ _).mono ?_; rintro e w' ⟨rfl, rfl⟩)
                    refine bodyPost_ret (v := .tuple #[.agg #[.int .i64 0, .bool false, .int .i64 0, .int .i64 0, .int .i64 0, .int .i64 0, .int .i64 0, .int .i64 0], .int .i64 6]) (by simp [results, Tryz.results23, go_sem, z0, z1, z2, z3, z4, z5, z6, z7]) rfl ⟨HNONE.out (by rw [HFORM.out]; exact refNums_none6 (HB6.out (by simp))), ?_⟩
                    exact (Below.setCell (Below.setCell (Below.setCell (Below.setCell (Below.setCell (Below.setCell (Below.setCell (Below.setCell hB (by show w.heap.size ≤ w.heap.size; omega) _) (by show w.heap.size ≤ w.heap.size; omega) _) (by show w.heap.size ≤ w.heap.size; omega) _) (by show w.heap.size ≤ w.heap.size; omega) _) (by show w.heap.size ≤ w.heap.size; omega) _) (by show w.heap.size ≤ w.heap.size; omega) _) (by show w.heap.size ≤ w.heap.size; omega) _) (by show w.heap.size ≤ w.heap.size; omega) _)
                  | true =>
                    have HSM : Hid (formV ws = some ⟨n0, false, n1, n2, n3, n4, n5, n6⟩) := show _ = _ from by rw [HFORM.out]; exact refNums_some (HT0.out (by simp)) (HT1.out (by simp)) (HT2.out (by simp)) (HT3.out (by simp)) (HT4.out (by simp)) (HT5.out (by simp)) (HT6.out (by simp))
                    go_upto_region 20 with fail
                    cases q0 : outB n0 1 9999 with
                    | true =>
                      go_wp2_with (go_at_call 69; refine (in_any _ _ _ _).mono ?_; rintro e w' ⟨rfl, rfl⟩)
                      refine bodyPost_ret (v := .tuple #[.agg #[.int .i64 0, .bool false, .int .i64 0, .int .i64 0, .int .i64 0, .int .i64 0, .int .i64 0, .int .i64 0], .int .i64 7]) (by simp [results, Tryz.results23, go_sem, z0, z1, z2, z3, z4, z5, z6, z7]) rfl ⟨HRNG.out _ HSM.out (by unfold rangeB kmB; simp only [q0, Bool.or_true, Bool.true_or]), ?_⟩
                      exact (Below.setCell (Below.setCell (Below.setCell (Below.setCell (Below.setCell (Below.setCell (Below.setCell (Below.setCell hB (by show w.heap.size ≤ w.heap.size; omega) _) (by show w.heap.size ≤ w.heap.size; omega) _) (by show w.heap.size ≤ w.heap.size; omega) _) (by show w.heap.size ≤ w.heap.size; omega) _) (by show w.heap.size ≤ w.heap.size; omega) _) (by show w.heap.size ≤ w.heap.size; omega) _) (by show w.heap.size ≤ w.heap.size; omega) _) (by show w.heap.size ≤ w.heap.size; omega) _)
                    | false =>
                      cases q1 : outB n2 0 100000 with
                      | true =>
                        go_wp2_with (go_at_call 69; refine (in_any _ _ _ _).mono ?_; rintro e w' ⟨rfl, rfl⟩)
                        refine bodyPost_ret (v := .tuple #[.agg #[.int .i64 0, .bool false, .int .i64 0, .int .i64 0, .int .i64 0, .int .i64 0, .int .i64 0, .int .i64 0], .int .i64 7]) (by simp [results, Tryz.results23, go_sem, z0, z1, z2, z3, z4, z5, z6, z7]) rfl ⟨HRNG.out _ HSM.out (by unfold rangeB kmB; simp only [q1, Bool.or_true, Bool.true_or]), ?_⟩
                        exact (Below.setCell (Below.setCell (Below.setCell (Below.setCell (Below.setCell (Below.setCell (Below.setCell (Below.setCell hB (by show w.heap.size ≤ w.heap.size; omega) _) (by show w.heap.size ≤ w.heap.size; omega) _) (by show w.heap.size ≤ w.heap.size; omega) _) (by show w.heap.size ≤ w.heap.size; omega) _) (by show w.heap.size ≤ w.heap.size; omega) _) (by show w.heap.size ≤ w.heap.size; omega) _) (by show w.heap.size ≤ w.heap.size; omega) _) (by show w.heap.size ≤ w.heap.size; omega) _)
                      | false =>
                        cases q2 : outB n1 0 n2 with
                        | true =>
                          go_wp2_with (go_at_call 69; refine (in_any _ _ _ _).mono ?_; rintro e w' ⟨rfl, rfl⟩)
                          refine bodyPost_ret (v := .tuple #[.agg #[.int .i64 0, .bool false, .int .i64 0, .int .i64 0, .int .i64 0, .int .i64 0, .int .i64 0, .int .i64 0], .int .i64 7]) (by simp [results, Tryz.results23, go_sem, z0, z1, z2, z3, z4, z5, z6, z7]) rfl ⟨HRNG.out _ HSM.out (by unfold rangeB kmB; simp only [q2, Bool.or_true, Bool.true_or]), ?_⟩
                          exact (Below.setCell (Below.setCell (Below.setCell (Below.setCell (Below.setCell (Below.setCell (Below.setCell (Below.setCell hB (by show w.heap.size ≤ w.heap.size; omega) _) (by show w.heap.size ≤ w.heap.size; omega) _) (by show w.heap.size ≤ w.heap.size; omega) _) (by show w.heap.size ≤ w.heap.size; omega) _) (by show w.heap.size ≤ w.heap.size; omega) _) (by show w.heap.size ≤ w.heap.size; omega) _) (by show w.heap.size ≤ w.heap.size; omega) _) (by show w.heap.size ≤ w.heap.size; omega) _)
                        | false =>
                          cases q3 : outB n4 (-3000) 3000 with
                          | true =>
                            go_wp2_with (go_at_call 69; refine (in_any _ _ _ _).mono ?_; rintro e w' ⟨rfl, rfl⟩)
                            refine bodyPost_ret (v := .tuple #[.agg #[.int .i64 0, .bool false, .int .i64 0, .int .i64 0, .int .i64 0, .int .i64 0, .int .i64 0, .int .i64 0], .int .i64 7]) (by simp [results, Tryz.results23, go_sem, z0, z1, z2, z3, z4, z5, z6, z7]) rfl ⟨HRNG.out _ HSM.out (by unfold rangeB kmB; simp only [q3, Bool.or_true, Bool.true_or]), ?_⟩
                            exact (Below.setCell (Below.setCell (Below.setCell (Below.setCell (Below.setCell (Below.setCell (Below.setCell (Below.setCell hB (by show w.heap.size ≤ w.heap.size; omega) _) (by show w.heap.size ≤ w.heap.size; omega) _) (by show w.heap.size ≤ w.heap.size; omega) _) (by show w.heap.size ≤ w.heap.size; omega) _) (by show w.heap.size ≤ w.heap.size; omega) _) (by show w.heap.size ≤ w.heap.size; omega) _) (by show w.heap.size ≤ w.heap.size; omega) _) (by show w.heap.size ≤ w.heap.size; omega) _)
                          | false =>
                            cases q4 : outB n3 (-3000) n4 with
                            | true =>
                              go_wp2_with (go_at_call 69; refine (in_any _ _ _ _).mono ?_; rintro e w' ⟨rfl, rfl⟩)
                              refine bodyPost_ret (v := .tuple #[.agg #[.int .i64 0, .bool false, .int .i64 0, .int .i64 0, .int .i64 0, .int .i64 0, .int .i64 0, .int .i64 0], .int .i64 7]) (by simp [results, Tryz.results23, go_sem, z0, z1, z2, z3, z4, z5, z6, z7]) rfl ⟨HRNG.out _ HSM.out (by unfold rangeB kmB; simp only [q4, Bool.or_true, Bool.true_or]), ?_⟩
                              exact (Below.setCell (Below.setCell (Below.setCell (Below.setCell (Below.setCell (Below.setCell (Below.setCell (Below.setCell hB (by show w.heap.size ≤ w.heap.size; omega) _) (by show w.heap.size ≤ w.heap.size; omega) _) (by show w.heap.size ≤ w.heap.size; omega) _) (by show w.heap.size ≤ w.heap.size; omega) _) (by show w.heap.size ≤ w.heap.size; omega) _) (by show w.heap.size ≤ w.heap.size; omega) _) (by show w.heap.size ≤ w.heap.size; omega) _) (by show w.heap.size ≤ w.heap.size; omega) _)
                            | false =>
                              cases q5 : outB n6 (-3000) 3000 with
                              | true =>
                                go_wp2_with (go_at_call 69; refine (in_any _ _ _ _).mono ?_; rintro e w' ⟨rfl, rfl⟩)
                                refine bodyPost_ret (v := .tuple #[.agg #[.int .i64 0, .bool false, .int .i64 0, .int .i64 0, .int .i64 0, .int .i64 0, .int .i64 0, .int .i64 0], .int .i64 7]) (by simp [results, Tryz.results23, go_sem, z0, z1, z2, z3, z4, z5, z6, z7]) rfl ⟨HRNG.out _ HSM.out (by unfold rangeB kmB; simp only [q5, Bool.or_true, Bool.true_or]), ?_⟩
                                exact (Below.setCell (Below.setCell (Below.setCell (Below.setCell (Below.setCell (Below.setCell (Below.setCell (Below.setCell hB (by show w.heap.size ≤ w.heap.size; omega) _) (by show w.heap.size ≤ w.heap.size; omega) _) (by show w.heap.size ≤ w.heap.size; omega) _) (by show w.heap.size ≤ w.heap.size; omega) _) (by show w.heap.size ≤ w.heap.size; omega) _) (by show w.heap.size ≤ w.heap.size; omega) _) (by show w.heap.size ≤ w.heap.size; omega) _) (by show w.heap.size ≤ w.heap.size; omega) _)
                              | false =>
                                cases q6 : outB n5 (-3000) n6 with
                                | true =>
                                  go_wp2_with (go_at_call 69; refine (in_any _ _ _ _).mono ?_; rintro e w' ⟨rfl, rfl⟩)
                                  refine bodyPost_ret (v := .tuple #[.agg #[.int .i64 0, .bool false, .int .i64 0, .int .i64 0, .int .i64 0, .int .i64 0, .int .i64 0, .int .i64 0], .int .i64 7]) (by simp [results, Tryz.results23, go_sem, z0, z1, z2, z3, z4, z5, z6, z7]) rfl ⟨HRNG.out _ HSM.out (by unfold rangeB kmB; simp only [q6, Bool.or_true, Bool.true_or]), ?_⟩
                                  exact (Below.setCell (Below.setCell (Below.setCell (Below.setCell (Below.setCell (Below.setCell (Below.setCell (Below.setCell hB (by show w.heap.size ≤ w.heap.size; omega) _) (by show w.heap.size ≤ w.heap.size; omega) _) (by show w.heap.size ≤ w.heap.size; omega) _) (by show w.heap.size ≤ w.heap.size; omega) _) (by show w.heap.size ≤ w.heap.size; omega) _) (by show w.heap.size ≤ w.heap.size; omega) _) (by show w.heap.size ≤ w.heap.size; omega) _) (by show w.heap.size ≤ w.heap.size; omega) _)
                                | false =>
                                  go_wp2_with (go_at_call 69; refine (in_any _ _ _ _).mono ?_; rintro e w' ⟨rfl, rfl⟩)
                                  refine bodyPost_ret (v := .tuple #[.agg #[.int .i64 n0, .bool false, .int .i64 n1, .int .i64 n2, .int .i64 n3, .int .i64 n4, .int .i64 n5, .int .i64 n6], .int .i64 0]) (by simp [results, Tryz.results23, go_sem, z0, z1, z2, z3, z4, z5, z6, z7]) rfl ⟨HOK.out _ HSM.out (by unfold rangeB kmB; simp only [q0, q1, q2, q3, q4, q5, q6, Bool.or_false]), ?_⟩
                                  exact (Below.setCell (Below.setCell (Below.setCell (Below.setCell (Below.setCell (Below.setCell (Below.setCell (Below.setCell hB (by show w.heap.size ≤ w.heap.size; omega) _) (by show w.heap.size ≤ w.heap.size; omega) _) (by show w.heap.size ≤ w.heap.size; omega) _) (by show w.heap.size ≤ w.heap.size; omega) _) (by show w.heap.size ≤ w.heap.size; omega) _) (by show w.heap.size ≤ w.heap.size; omega) _) (by show w.heap.size ≤ w.heap.size; omega) _) (by show w.heap.size ≤ w.heap.size; omega) _)
end Go.Proofs.YtmglbegbijofkaaGreatDoor
