/- Walks: the document's words, names, numbers. -/
import Derived.Test.YtkjajpfgdjfcoaaGreatDoorPC
import Derived.Deep.AppendLies
import Derived.Laws.IdiomStrings
import Derived.Lib.AppendIntMem
import Derived.OwnWalk
import Derived.Lib.ItoaLen
set_option linter.unusedVariables false
set_option linter.unusedSimpArgs false
namespace Go.Proofs.YtkjajpfgdjfcoaaGreatDoor
open Go.RowKit
def wordCells : List Value := verbW.map encB
set_option maxRecDepth 100000 in
set_option maxHeartbeats 800000 in
theorem rverbs_any (w : World) : Calls Tryz.prog 37 #[] w fun e w' => e = .returned (.slice (some ⟨w.heap.size, 0, none⟩) 18 18) ∧ w' = w.alloc (.cells ⟨wordCells⟩ 9) := by
  go_enter Tryz.func37, Tryz.ntmps37
  go_wp2_with fail
  go_ret
  exact ⟨rfl, by first | rfl | (congr 1; done)⟩
set_option maxRecDepth 100000 in
set_option maxHeartbeats 2000000 in
theorem rnamed_any (k : Nat) (hk : k < 18) (w : World) : Calls Tryz.prog 38 #[.int .i64 k] w fun e w' => e = .returned (.bool (namedB k)) ∧ Below w.heap.size w w' := by
  have h : k = 0 ∨ k = 1 ∨ k = 2 ∨ k = 3 ∨ k = 4 ∨ k = 5 ∨ k = 6 ∨ k = 7 ∨ k = 8 ∨ k = 9 ∨ k = 10 ∨ k = 11 ∨ k = 12 ∨ k = 13 ∨ k = 14 ∨ k = 15 ∨ k = 16 ∨ k = 17 := by omega
  rcases h with rfl | rfl | rfl | rfl | rfl | rfl | rfl | rfl | rfl | rfl | rfl | rfl | rfl | rfl | rfl | rfl | rfl | rfl
  all_goals (go_enter Tryz.func38, Tryz.ntmps38; go_wp2_with fail; go_ret; exact ⟨rfl, (by repeat (first | exact Below.refl _ _ | assumption | refine balloc ?_ _ | refine below_trans ?_ (by assumption) | refine Below.drew ?_ | refine below_drewN ?_ _ | refine Below.setCell ?_ (by simp <;> omega) _))⟩)
set_option maxRecDepth 100000 in
set_option maxHeartbeats 2000000 in
theorem rmany_any (k : Nat) (hk : k < 18) (w : World) : Calls Tryz.prog 40 #[.int .i64 k] w fun e w' => e = .returned (.int .i64 (manyN k)) ∧ Below w.heap.size w w' := by
  have h : k = 0 ∨ k = 1 ∨ k = 2 ∨ k = 3 ∨ k = 4 ∨ k = 5 ∨ k = 6 ∨ k = 7 ∨ k = 8 ∨ k = 9 ∨ k = 10 ∨ k = 11 ∨ k = 12 ∨ k = 13 ∨ k = 14 ∨ k = 15 ∨ k = 16 ∨ k = 17 := by omega
  rcases h with rfl | rfl | rfl | rfl | rfl | rfl | rfl | rfl | rfl | rfl | rfl | rfl | rfl | rfl | rfl | rfl | rfl | rfl
  all_goals (go_enter Tryz.func40, Tryz.ntmps40; go_wp2_with fail; go_ret; exact ⟨rfl, (by repeat (first | exact Below.refl _ _ | assumption | refine balloc ?_ _ | refine below_trans ?_ (by assumption) | refine Below.drew ?_ | refine below_drewN ?_ _ | refine Below.setCell ?_ (by simp <;> omega) _))⟩)
end Go.Proofs.YtkjajpfgdjfcoaaGreatDoor
namespace Go.Proofs.YtkjajpfgdjfcoaaGreatDoor
open Go.RowKit Go.Maps Go.Sort Go.Shelf
theorem below_grown {w w' W : World} {row : Value} (h : Below W.heap.size W w) (hg : w.grownBy w' row.ownBlock) (hr : ∀ g, row.ownBlock = some g → W.heap.size ≤ g) : Below W.heap.size W w' := h.grown hg h.size hr
theorem ext_one (s : ByteArray) (k : Nat) (hk : k < s.size) : (s.extract k (k + 1)).data.toList = [s[k]] := by
  have hl : k < s.data.toList.length := by simpa using hk
  have e : s.data.toList[k] = s[k] := by rw [Array.getElem_toList]; rfl
  have h : (s.extract k (k + 1)).data.toList = (s.data.toList.drop k).take 1 := by simp
  rw [h, List.drop_eq_getElem_cons hl, e]
  rfl
theorem take_one (s : ByteArray) (k : Nat) (hk : k < s.size) : s.data.toList.take (k + 1) = s.data.toList.take k ++ [s[k]] := by
  have hl : k < s.data.toList.length := by simpa using hk
  have e : s.data.toList[k] = s[k] := by rw [Array.getElem_toList]; rfl
  rw [List.take_succ_eq_append_getElem hl, e]
/-- a row of words -/
def WordsPost (w : World) (l : List UInt8) (e : Ending) (w' : World) : Prop :=
  ∃ (v : Value) (Q : List ByteArray), e = .returned v ∧ Q.map (fun x => x.data.toList) = wordsL l ∧ w'.ownsRow w.heap.size 9 1 v Q.length (Q.map Value.string) ∧ Below w.heap.size w w'
set_option maxRecDepth 100000 in
set_option maxHeartbeats 800000 in
theorem rwords_any (s : ByteArray) (hs : s.size ≤ 8796093022000) (w : World) : Calls Tryz.prog 35 #[.string s] w (WordsPost w s.data.toList) := by
  obtain ⟨i0, hi, hz0, hz1, hz2⟩ := info_parts Tryz.info9
  go_enter Tryz.func35, Tryz.ntmps35
  go_wp2_with fail
  go_loopw [3, 4, 5] (fun ov wv i wr => ∃ (k : Nat) (v : Value) (O : List ByteArray) (W : ByteArray), k ≤ s.size ∧ i = .int .i64 k ∧ v = ov ∧ wv = .string W ∧ W.size ≤ k ∧ O.length ≤ k ∧ Hid (wordsL (s.data.toList.take k) = O.map (fun x => x.data.toList) ++ [W.data.toList]) ∧ Hid (wr.ownsRow w.heap.size 9 1 v O.length (O.map Value.string)) ∧ Below w.heap.size w wr) (fun _ _ i _ => s.size - (intOf i).toNat)
  case atStart => exact ⟨0, .slice none 0 0, [], ⟨#[]⟩, Nat.zero_le _, rfl, rfl, rfl, Nat.le_refl _, Nat.le_refl _, show _ = _ from rfl, World.ownsRow_nil _ _ _ _, Below.refl _ _⟩
  case round =>
    obtain ⟨k, v, O, W, hk, rfl, rfl, rfl, hW, hO, HWD, HO, hB⟩ := hrel
    by_cases hlt : k < s.size
    · have i1 : (0 : Int) ≤ (k : Int) := by omega
      have i2 : (k : Int) < (s.size : Int) := by omega
      have HTK := Lib.hid (take_one s k hlt)
      have HEX := Lib.hid (ext_one s k hlt)
      by_cases h32 : s[k] = 32
      · have z32 : (((s[k].toNat : Nat) : Int) == 32) = true := beq_iff_eq.2 (by rw [h32]; rfl)
        have HNX : Hid (wordsL (s.data.toList.take (k + 1)) = (O ++ [W]).map (fun x => x.data.toList) ++ [([] : List UInt8)]) := show _ = _ from by
          rw [HTK.out, h32, words_snoc_sp, HWD.out]; simp
        clear h32
        go_wp2_with ((at_builtin; refine wpList_append_lies _ (by rfl) _ _ _ (by rfl) w.heap.size 9 i0 _ 1 16 Tryz.underlying22 hi hz0 hz1 hz2 rfl (by omega) v O.length _ (by rfl) (World.ownsRow.alloc HO.out _) ⟨wr.heap.size, 0, none⟩ 1 1 [.string W] (by rfl) (by rfl) (World.news_of_block (cs := #[.string W]) (t := 9) (fr := (0, 0)) (heap_alloc_new wr _)) (by simp [Value.oneCell']) (by omega) (by unfold maxLen; omega) (by omega) (by have := hB.size; simp; omega) (wr.heap.size + 1) (by simp) ?_))
        intro g7 cap7 w7 hown7 hgrow hat hlt7
        have hB7 := below_grown (balloc hB _) hgrow (fun g hg => (HO.out.lt g hg).1)
        clear hat
        go_wp2_with fail
        go_roundw
        case rel => exact ⟨k + 1, _, O ++ [W], ⟨#[]⟩, by omega, by go_num, rfl, rfl, Nat.zero_le _, (by simp; omega), HNX.out, (by show World.ownsRow _ _ _ _ _ _ _; rw [List.map_append, List.length_append]; exact hown7), hB7⟩
        case measure => simp [intOf]; omega
      · have z32 : (((s[k].toNat : Nat) : Int) == 32) = false := beq_eq_false_iff_ne.2 (fun h => h32 (by
          apply UInt8.toNat_inj.1
          have : s[k].toNat = 32 := by omega
          simpa using this))
        have HNX : Hid (wordsL (s.data.toList.take (k + 1)) = O.map (fun x => x.data.toList) ++ [(W ++ s.extract k (k + 1)).data.toList]) := show _ = _ from by
          rw [HTK.out, words_snoc_ch h32 _ _ _ HWD.out, ByteArray.data_append, Array.toList_append, HEX.out]
        have hes : (s.extract k (k + 1)).size ≤ 1 := by rw [ByteArray.size_extract]; omega
        have hws : (W ++ s.extract k (k + 1)).size ≤ k + 1 := by rw [ByteArray.size_append]; omega
        have i3 : (k : Int) + 1 ≤ (s.size : Int) := by omega
        clear h32
        go_wp2_with fail
        go_roundw
        case rel => exact ⟨k + 1, v, O, W ++ s.extract k (k + 1), by omega, by go_num, rfl, rfl, hws, by omega, HNX.out, HO.out, hB⟩
        case measure => simp [intOf]; omega
    · obtain rfl : k = s.size := by omega
      have HNX : Hid ((O ++ [W]).map (fun x => x.data.toList) = wordsL s.data.toList) := show _ = _ from by
        have h := HWD.out
        rw [List.take_of_length_le (by simp)] at h
        rw [h]; simp
      go_wp2_with ((at_builtin; refine wpList_append_lies _ (by rfl) _ _ _ (by rfl) w.heap.size 9 i0 _ 1 16 Tryz.underlying22 hi hz0 hz1 hz2 rfl (by omega) v O.length _ (by rfl) (World.ownsRow.alloc HO.out _) ⟨wr.heap.size, 0, none⟩ 1 1 [.string W] (by rfl) (by rfl) (World.news_of_block (cs := #[.string W]) (t := 9) (fr := (0, 0)) (heap_alloc_new wr _)) (by simp [Value.oneCell']) (by omega) (by unfold maxLen; omega) (by omega) (by have := hB.size; simp; omega) (wr.heap.size + 1) (by simp) ?_))
      intro g7 cap7 w7 hown7 hgrow hat hlt7
      have hB7 := below_grown (balloc hB _) hgrow (fun g hg => (HO.out.lt g hg).1)
      clear hat
      go_wp2_with fail
      go_ret
      exact ⟨_, O ++ [W], rfl, HNX.out, (by show World.ownsRow _ _ _ _ _ _ _; rw [List.map_append, List.length_append]; exact hown7), hB7⟩
/-- the words as a row of strings -/
theorem rwords_list (s : List UInt8) (hs : s.length ≤ 8796093022000) (w : World) : Calls Tryz.prog 35 #[.string ⟨s.toArray⟩] w fun e w' => ∃ v, e = .returned v ∧ w'.ownsRow w.heap.size 9 1 v (wordsL s).length ((wordsL s).map fun x => Value.string ⟨x.toArray⟩) ∧ Below w.heap.size w w' := by
  refine (rwords_any ⟨s.toArray⟩ (by simpa [ByteArray.size] using hs) w).mono ?_
  rintro e w' ⟨v, Q, he, hq, ho, hb⟩
  have hq2 : Q.map (fun x => x.data.toList) = wordsL s := hq
  refine ⟨v, he, ?_, hb⟩
  have h1 : (wordsL s).length = Q.length := by rw [← hq2, List.length_map]
  have h2 : ((wordsL s).map fun x => Value.string ⟨x.toArray⟩) = Q.map Value.string := by rw [← hq2, List.map_map]; rfl
  rw [h1, h2]
  exact ho
end Go.Proofs.YtkjajpfgdjfcoaaGreatDoor
namespace Go.Proofs.YtkjajpfgdjfcoaaGreatDoor
open Go.RowKit
set_option maxRecDepth 100000 in
set_option maxHeartbeats 800000 in
/-- the reference's Name -/
theorem rname_any (s : ByteArray) (w : World) (hs : s.size ≤ 9223372036854775806) :
    Calls Tryz.prog 39 #[.string s] w fun e w' => e = .returned (.bool (nameB s.data.toList)) ∧ w = w' := by
  have e0 : s.data.toList.length = s.size := by simp
  by_cases h1 : s.size < 1
  · have HN : Hid (nameB s.data.toList = false) := show _ = _ from by unfold nameB; rw [Bool.and_eq_false_iff, Bool.and_eq_false_iff]; simp only [decide_eq_false_iff_not, e0]; omega
    clear e0
    go_enter Tryz.func39, Tryz.ntmps39
    go_wp2_with fail
    go_ret
    exact ⟨ret_bool HN.out.symm, rfl⟩
  · by_cases h2 : 24 < s.size
    · have HN : Hid (nameB s.data.toList = false) := show _ = _ from by unfold nameB; rw [Bool.and_eq_false_iff, Bool.and_eq_false_iff]; simp only [decide_eq_false_iff_not, e0]; omega
      clear e0
      go_enter Tryz.func39, Tryz.ntmps39
      go_wp2_with fail
      go_ret
      exact ⟨ret_bool HN.out.symm, rfl⟩
    · have HN : Hid (nameB s.data.toList = !badFrom s.data.toList 0) := show _ = _ from by
        unfold nameB; rw [e0, decide_eq_true (show 1 ≤ s.size by omega), decide_eq_true (show s.size ≤ 24 by omega)]; simp
      have HE0 := Lib.hid e0
      clear e0
      go_enter Tryz.func39, Tryz.ntmps39
      go_wp2_with fail
      go_loop [3] (fun i => ∃ k : Nat, k ≤ s.size ∧ i = .int .i64 k ∧ Hid (badFrom s.data.toList 0 = badFrom (s.data.toList.drop k) k)) (fun i => s.size - (intOf i).toNat)
      case atStart => exact ⟨0, Nat.zero_le _, rfl, rfl⟩
      case round =>
        obtain ⟨k, hk, rfl, HI⟩ := hrel
        by_cases hlt : k < s.size
        · have HS : Hid (badFrom (s.data.toList.drop k) k = (chBadN k (s[k].toNat : Int) || badFrom (s.data.toList.drop (k + 1)) (k + 1))) := show _ = _ from by
            have h := badFrom_drop s.data.toList k (by rw [HE0.out]; exact hlt)
            have hg : s.data.toList.getD k 0 = s[k] := by
              rw [List.getD_eq_getElem?_getD, List.getElem?_eq_getElem (by rw [HE0.out]; exact hlt)]
              simp
              rfl
            rw [hg, chBad_n] at h
            exact h
          have hx0 : (0 : Int) ≤ (s[k].toNat : Int) := by omega
          have hx1 : (s[k].toNat : Int) < 256 := by have := s[k].toNat_lt; omega
          have hx : (s[k].toNat : Int) < 45 ∨ (45 ≤ (s[k].toNat : Int) ∧ (s[k].toNat : Int) ≤ 45) ∨ (46 ≤ (s[k].toNat : Int) ∧ (s[k].toNat : Int) ≤ 47) ∨ (48 ≤ (s[k].toNat : Int) ∧ (s[k].toNat : Int) ≤ 57) ∨ (58 ≤ (s[k].toNat : Int) ∧ (s[k].toNat : Int) ≤ 96) ∨ (97 ≤ (s[k].toNat : Int) ∧ (s[k].toNat : Int) ≤ 122) ∨ 123 ≤ (s[k].toNat : Int) := by omega
          generalize hgx : (s[k].toNat : Int) = x at *
          have HGX := Lib.hid hgx
          clear hgx
          have hkk : k ≤ 0 ∨ 1 ≤ k := by omega
          rcases hx with h | ⟨h, h'⟩ | ⟨h, h'⟩ | ⟨h, h'⟩ | ⟨h, h'⟩ | ⟨h, h'⟩ | h <;> rcases hkk with hk0 | hk0
          all_goals (try have q1 : ((k : Int) == 0) = false := beq_eq_false_iff_ne.2 (by omega))
          all_goals (try have q5 : (x == 45) = false := beq_eq_false_iff_ne.2 (by omega))
          all_goals (try have q6 : (x == 45) = true := beq_iff_eq.2 (by omega))
          all_goals (try have q3 : decide (x ≤ 57) = false := decide_eq_false (by omega))
          all_goals (try have q4 : decide (x ≤ 122) = false := decide_eq_false (by omega))
          all_goals (have HGY := HGX.out; clear HGX)
          all_goals (go_wp2_with fail)
          all_goals (first
            | (go_ret; refine ⟨ret_bool ?_, rfl⟩
               have hcb : chBadN k x = true := by (unfold chBadN; simp; omega)
               rw [HN.out, HI.out, HS.out, hcb]; simp; done)
            | (go_round
               case rel =>
                 have hcb : chBadN k x = false := by (unfold chBadN; simp; omega)
                 exact ⟨k + 1, by omega, by go_num, by unfold Hid; rw [HI.out, HS.out, hcb]; simp⟩
               case measure => (simp [intOf]; omega))
            | (obtain rfl : k = 0 := by omega
               have hcb : chBadN 0 x = false := by (unfold chBadN; simp; omega)
               refine ⟨⟨1, by omega, rfl, ?_⟩, ?_⟩
               · unfold Hid; rw [HI.out, HS.out, hcb]; simp
               · simp [intOf]; omega))
        · obtain rfl : k = s.size := by omega
          go_wp2_with fail
          go_ret
          refine ⟨ret_bool ?_, rfl⟩
          rw [HN.out, HI.out, ← HE0.out, badFrom_end]
          rfl
end Go.Proofs.YtkjajpfgdjfcoaaGreatDoor
namespace Go.Proofs.YtkjajpfgdjfcoaaGreatDoor
open Go.RowKit Go.Maps Go.Sort Go.Shelf
theorem take_val (s : ByteArray) (k : Nat) (hk : k < s.size) : valD (s.data.toList.take (k + 1)) = valD (s.data.toList.take k) * 10 + (s[k].toNat - 48) ∧ (s.data.toList.take (k + 1)).all digB = ((s.data.toList.take k).all digB && digB s[k]) := by
  have hl : k < s.data.toList.length := by simpa using hk
  have e : s.data.toList[k] = s[k] := by rw [Array.getElem_toList]; rfl
  rw [List.take_succ_eq_append_getElem hl, e]
  exact ⟨valD_snoc _ _, by simp⟩
theorem numC_of (x : List UInt8) : numC x = if noNum (isMinus x) (unsign x) then none else some (sgn (isMinus x) (valC (unsign x))) := rfl
set_option maxRecDepth 100000 in
set_option maxHeartbeats 1000000 in
theorem rnumber_plus (x : List UInt8) (hx : x.length ≤ 120) (hm : isMinus x = false) (w : World) : Calls Tryz.prog 36 #[.string ⟨x.toArray⟩] w fun e w' => e = .returned (numT (numC x)) ∧ w = w' := by
  obtain ⟨D, hD⟩ : ∃ D : ByteArray, D = ⟨x.toArray⟩ := ⟨_, rfl⟩
  have hdl : D.data.toList = x := by rw [hD]
  have hsz : D.size ≤ 120 := by rw [hD]; simpa [ByteArray.size] using hx
  have HN : Hid (numC x = if noNum false D.data.toList then none else some (sgn false (valC D.data.toList))) := show _ = _ from by
    rw [numC_of, hm, show unsign x = D.data.toList by rw [hdl]; unfold unsign; rw [hm]; simp]
  have hm2 : ∀ _ : 0 < D.size, ((D[0].toNat : Nat) : Int) ≠ 45 := fun h0 h45 => by
    have e := head_get D h0
    rw [hdl] at e
    unfold isMinus at hm
    rw [e] at hm
    simp only [beq_eq_false_iff_ne] at hm
    apply hm
    apply UInt8.toNat_inj.1
    have : D[0].toNat = 45 := by omega
    simpa using this
  rw [← hD]
  have HM2 := Lib.hid hm2
  clear hD hdl hm hx hm2
  by_cases hp : 0 < D.size
  · have y0 : (0 : Int) < (D.size : Int) := by omega
    have y45 : (((D[0].toNat : Nat) : Int) == 45) = false := beq_eq_false_iff_ne.2 (HM2.out hp)
    by_cases h0 : 0 < D.size
    · have hh := head_get D h0
      have hne := toList_ne D h0
      have z0 : ¬ (D.size : Int) = 0 := by omega
      have y1 : ((D.size : Int) == 0) = false := beq_eq_false_iff_ne.2 z0
      have y2 : ¬ D = ByteArray.empty := fun e => by rw [e] at h0; exact absurd h0 (by decide)
      by_cases hl : 1 < D.size ∧ ((D[0].toNat : Nat) : Int) = 48
      · obtain ⟨h1, z48⟩ := hl
        have HN0 : Hid (numC x = none) := show _ = _ from by
          rw [HN.out]
          have : noNum false D.data.toList = true := by
            cases hq : noNum false D.data.toList with
            | true => rfl
            | false =>
              have := ((numWay false D).2.1 hq).2.2.2 h1
              rw [hh] at this
              exact absurd (UInt8.toNat_inj.1 (by have : (D[0].toNat : Nat) = 48 := by omega
                                                  simpa using this)) this
          rw [this]; rfl
        have z1 : (1 : Int) < (D.size : Int) := by omega
        have zz : (((D[0].toNat : Nat) : Int) == 48) = true := beq_iff_eq.2 z48
        clear HN hh
        go_enter Tryz.func36, Tryz.ntmps36
        go_wp2_with fail
        go_ret2
        exact ⟨by rw [HN0.out] <;> rfl, rfl⟩
      · by_cases hz : false = true ∧ D = ⟨#[48]⟩
        · exact absurd hz.1 (by decide)
        · have hv0 : D.data.toList.all digB = true → noNum false D.data.toList = false := fun hall => by
            refine (numWay false D).2.2 ⟨h0, (trim_nil _).2 hall, fun hm he => hz ⟨hm, he⟩, fun h1 he => hl ⟨h1, ?_⟩⟩
            rw [← hh, he]; rfl
          have HV : Hid (D.data.toList.all digB = true → numC x = some (sgn false ((min 1000000000001 (valD D.data.toList) : Nat) : Int))) := show _ → _ from fun h => by
            rw [HN.out, hv0 h]
            unfold valC
            simp only [Bool.false_eq_true, if_false, Option.some.injEq]
            congr 1
            omega
          have HF : Hid (D.data.toList.all digB = false → numC x = none) := show _ → _ from fun h => by
            rw [HN.out]
            have : noNum false D.data.toList = true := by unfold noNum; rw [h]; simp
            rw [this]; rfl
          have hzz : false = true → D ≠ ⟨#[48]⟩ := fun hm he => hz ⟨hm, he⟩
          have HZ := Lib.hid hzz
          clear hh hz hzz hv0 HN
          by_cases h1 : 1 < D.size
          · have z1 : (1 : Int) < (D.size : Int) := by omega
            have zz : (((D[0].toNat : Nat) : Int) == 48) = false := beq_eq_false_iff_ne.2 (fun h => hl ⟨h1, h⟩)
            clear hl
            skip
            go_enter Tryz.func36, Tryz.ntmps36
            go_wp2_with fail
            go_loop [5, 6] (fun n i => ∃ k q : Nat, k ≤ D.size ∧ i = .int .i64 k ∧ n = .int .i64 q ∧ q ≤ 1000000000001 ∧ Hid (q = min 1000000000001 (valD (D.data.toList.take k))) ∧ Hid ((D.data.toList.take k).all digB = true)) (fun _ i => D.size - (intOf i).toNat)
            case atStart => exact ⟨0, 0, Nat.zero_le _, rfl, rfl, by omega, rfl, rfl⟩
            case round =>
              obtain ⟨k, q, hk, rfl, rfl, hm, HM, HA⟩ := hrel
              by_cases hlt : k < D.size
              · obtain ⟨t1, t2⟩ := take_val D k hlt
                have HT1 := Lib.hid t1
                have HT2 := Lib.hid t2
                clear t1 t2
                have hx0 : (0 : Int) ≤ (D[k].toNat : Int) := by omega
                have hx1 : (D[k].toNat : Int) < 256 := by have := D[k].toNat_lt; omega
                have hx : (D[k].toNat : Int) < 48 ∨ (48 ≤ (D[k].toNat : Int) ∧ (D[k].toNat : Int) ≤ 57) ∨ 57 < (D[k].toNat : Int) := by omega
                have HBad : Hid (digB D[k] = false → numC x = none) := show _ → _ from fun hd => by
                  cases hall : D.data.toList.all digB with
                  | false => exact HF.out hall
                  | true =>
                    have h3 : (D.data.toList.take (k + 1)).all digB = true := List.all_eq_true.2 fun y hy => List.all_eq_true.1 hall y (List.mem_of_mem_take hy)
                    rw [HT2.out, hd, Bool.and_false] at h3
                    cases h3
                clear HV HF
                rcases hx with h | ⟨h, h'⟩ | h
                · have HN : Hid (numC x = none) := show _ = _ from HBad.out (by unfold digB; simp; omega)
                  clear HBad
                  go_wp2_with fail
                  go_ret2
                  exact ⟨by rw [HN.out] <;> rfl, rfl⟩
                · have hdg : Hid (digB D[k] = true) := show _ = _ from by unfold digB; simp; omega
                  clear HBad
                  go_wp2_with fail
                  go_round
                  case rel =>
                    refine ⟨k + 1, min 1000000000001 (10 * q + (D[k].toNat - 48)), by omega, by go_num, ?_, by omega, ?_, ?_⟩
                    · congr 1; omega
                    · show _ = _
                      have := HM.out
                      rw [HT1.out]; omega
                    · show _ = _
                      rw [HT2.out, HA.out, hdg.out]; rfl
                  case measure => simp [intOf]; omega
                · have HN : Hid (numC x = none) := show _ = _ from HBad.out (by unfold digB; simp; omega)
                  have z48 : ¬ (D[k].toNat : Int) < 48 := by omega
                  clear HBad
                  go_wp2_with fail
                  go_ret2
                  exact ⟨by rw [HN.out] <;> rfl, rfl⟩
              · have hA2 : Hid (numC x = some (sgn false ((q : Nat) : Int))) := show _ = _ from by
                  have e : D.data.toList.take k = D.data.toList := List.take_of_length_le (by simp; omega)
                  have e1 := HA.out
                  have e2 := HM.out
                  rw [e] at e1 e2
                  rw [HV.out e1, e2]
                clear HV HF HA HM
                have hw : IntKind.i64.wrap (-(q : Int)) = -(q : Int) := by rw [IntKind.wrap_i64]; omega
                go_wp2_with fail
                go_ret2
                exact ⟨by rw [hA2.out]; rfl, rfl⟩
          · have z1 : ¬ (1 : Int) < (D.size : Int) := by omega
            clear hl
            skip
            go_enter Tryz.func36, Tryz.ntmps36
            go_wp2_with fail
            go_loop [5, 6] (fun n i => ∃ k q : Nat, k ≤ D.size ∧ i = .int .i64 k ∧ n = .int .i64 q ∧ q ≤ 1000000000001 ∧ Hid (q = min 1000000000001 (valD (D.data.toList.take k))) ∧ Hid ((D.data.toList.take k).all digB = true)) (fun _ i => D.size - (intOf i).toNat)
            case atStart => exact ⟨0, 0, Nat.zero_le _, rfl, rfl, by omega, rfl, rfl⟩
            case round =>
              obtain ⟨k, q, hk, rfl, rfl, hm, HM, HA⟩ := hrel
              by_cases hlt : k < D.size
              · obtain ⟨t1, t2⟩ := take_val D k hlt
                have HT1 := Lib.hid t1
                have HT2 := Lib.hid t2
                clear t1 t2
                have hx0 : (0 : Int) ≤ (D[k].toNat : Int) := by omega
                have hx1 : (D[k].toNat : Int) < 256 := by have := D[k].toNat_lt; omega
                have hx : (D[k].toNat : Int) < 48 ∨ (48 ≤ (D[k].toNat : Int) ∧ (D[k].toNat : Int) ≤ 57) ∨ 57 < (D[k].toNat : Int) := by omega
                have HBad : Hid (digB D[k] = false → numC x = none) := show _ → _ from fun hd => by
                  cases hall : D.data.toList.all digB with
                  | false => exact HF.out hall
                  | true =>
                    have h3 : (D.data.toList.take (k + 1)).all digB = true := List.all_eq_true.2 fun y hy => List.all_eq_true.1 hall y (List.mem_of_mem_take hy)
                    rw [HT2.out, hd, Bool.and_false] at h3
                    cases h3
                clear HV HF
                rcases hx with h | ⟨h, h'⟩ | h
                · have HN : Hid (numC x = none) := show _ = _ from HBad.out (by unfold digB; simp; omega)
                  clear HBad
                  go_wp2_with fail
                  go_ret2
                  exact ⟨by rw [HN.out] <;> rfl, rfl⟩
                · have hdg : Hid (digB D[k] = true) := show _ = _ from by unfold digB; simp; omega
                  clear HBad
                  go_wp2_with fail
                  go_round
                  case rel =>
                    refine ⟨k + 1, min 1000000000001 (10 * q + (D[k].toNat - 48)), by omega, by go_num, ?_, by omega, ?_, ?_⟩
                    · congr 1; omega
                    · show _ = _
                      have := HM.out
                      rw [HT1.out]; omega
                    · show _ = _
                      rw [HT2.out, HA.out, hdg.out]; rfl
                  case measure => simp [intOf]; omega
                · have HN : Hid (numC x = none) := show _ = _ from HBad.out (by unfold digB; simp; omega)
                  have z48 : ¬ (D[k].toNat : Int) < 48 := by omega
                  clear HBad
                  go_wp2_with fail
                  go_ret2
                  exact ⟨by rw [HN.out] <;> rfl, rfl⟩
              · have hA2 : Hid (numC x = some (sgn false ((q : Nat) : Int))) := show _ = _ from by
                  have e : D.data.toList.take k = D.data.toList := List.take_of_length_le (by simp; omega)
                  have e1 := HA.out
                  have e2 := HM.out
                  rw [e] at e1 e2
                  rw [HV.out e1, e2]
                clear HV HF HA HM
                have hw : IntKind.i64.wrap (-(q : Int)) = -(q : Int) := by rw [IntKind.wrap_i64]; omega
                go_wp2_with fail
                go_ret2
                exact ⟨by rw [hA2.out]; rfl, rfl⟩
    · have hnil : D = ⟨#[]⟩ := ba_empty D (by omega)
      have HN0 : Hid (numC x = none) := show _ = _ from by rw [HN.out, hnil]; rfl
      have z0 : (D.size : Int) = 0 := by omega
      clear hnil h0 HN
      go_enter Tryz.func36, Tryz.ntmps36
      go_wp2_with fail
      go_ret2
      exact ⟨by rw [HN0.out] <;> rfl, rfl⟩
  · have y0 : ¬ (0 : Int) < (D.size : Int) := by omega
    have hnil : D = ⟨#[]⟩ := ba_empty D (by omega)
    have HN0 : Hid (numC x = none) := show _ = _ from by rw [HN.out, hnil]; rfl
    subst hnil
    clear HN HM2
    go_enter Tryz.func36, Tryz.ntmps36
    go_wp2_with fail
    go_ret2
    exact ⟨by rw [HN0.out] <;> rfl, rfl⟩
set_option maxRecDepth 100000 in
set_option maxHeartbeats 1000000 in
theorem rnumber_minus (x : List UInt8) (hx : x.length ≤ 120) (hm : isMinus x = true) (w : World) : Calls Tryz.prog 36 #[.string ⟨x.toArray⟩] w fun e w' => e = .returned (numT (numC x)) ∧ w = w' := by
  obtain ⟨s, hs⟩ : ∃ s : ByteArray, s = ⟨x.toArray⟩ := ⟨_, rfl⟩
  have hsl : s.data.toList = x := by rw [hs]
  have hs0 : 0 < s.size := by
    rcases Nat.eq_zero_or_pos s.size with h | h
    · rw [ba_empty s h] at hsl
      rw [← hsl] at hm
      cases hm
    · exact h
  have hs120 : s.size ≤ 120 := by rw [hs]; simpa [ByteArray.size] using hx
  have h45 : ((s[0].toNat : Nat) : Int) = 45 := by
    have e := head_get s hs0
    rw [hsl] at e
    unfold isMinus at hm
    rw [e] at hm
    rw [beq_iff_eq] at hm
    rw [hm]; rfl
  obtain ⟨D, hD⟩ : ∃ D : ByteArray, s.extract 1 s.size = D := ⟨_, rfl⟩
  have hdl : D.data.toList = x.tail := by
    rw [← hD, ← hsl]
    have e : (s.extract 1 s.size).data.toList = (s.data.toList.drop 1).take (s.size - 1) := by simp
    rw [e, List.take_of_length_le (by simp), List.drop_one]
  have hsz : D.size ≤ 120 := by rw [← hD, ByteArray.size_extract]; omega
  have HN : Hid (numC x = if noNum true D.data.toList then none else some (sgn true (valC D.data.toList))) := show _ = _ from by
    rw [numC_of, hm, show unsign x = D.data.toList by rw [hdl]; unfold unsign; rw [hm]; simp]
  rw [← hs]
  clear hdl hm hx hs hsl
  have y0 : (0 : Int) < (s.size : Int) := by omega
  have y45 : (((s[0].toNat : Nat) : Int) == 45) = true := beq_iff_eq.2 h45
  have y1' : (1 : Int) ≤ (s.size : Int) := by omega
  clear h45
  by_cases h0 : 0 < D.size
  · have hh := head_get D h0
    have hne := toList_ne D h0
    have z0 : ¬ (D.size : Int) = 0 := by omega
    have y1 : ((D.size : Int) == 0) = false := beq_eq_false_iff_ne.2 z0
    have y2 : ¬ D = ByteArray.empty := fun e => by rw [e] at h0; exact absurd h0 (by decide)
    by_cases hl : 1 < D.size ∧ ((D[0].toNat : Nat) : Int) = 48
    · obtain ⟨h1, z48⟩ := hl
      have HN0 : Hid (numC x = none) := show _ = _ from by
        rw [HN.out]
        have : noNum true D.data.toList = true := by
          cases hq : noNum true D.data.toList with
          | true => rfl
          | false =>
            have := ((numWay true D).2.1 hq).2.2.2 h1
            rw [hh] at this
            exact absurd (UInt8.toNat_inj.1 (by have : (D[0].toNat : Nat) = 48 := by omega
                                                simpa using this)) this
        rw [this]; rfl
      have z1 : (1 : Int) < (D.size : Int) := by omega
      have zz : (((D[0].toNat : Nat) : Int) == 48) = true := beq_iff_eq.2 z48
      clear HN hh
      go_enter Tryz.func36, Tryz.ntmps36
      go_wp2_with fail
      go_ret2
      exact ⟨by rw [HN0.out] <;> rfl, rfl⟩
    · by_cases hz : true = true ∧ D = ⟨#[48]⟩
      · have HN0 : Hid (numC x = none) := show _ = _ from by
          rw [HN.out, hz.2]; rfl
        have hz3 : D.toList = [48] := by rw [hz.2, ByteArray.toList_eq]
        have hz2 : (D.toList == [48]) = true := by rw [hz3]; rfl
        have z1 : ¬ (1 : Int) < (D.size : Int) := by rw [hz.2]; decide
        clear HN hh hz hl
        go_enter Tryz.func36, Tryz.ntmps36
        go_wp2_with fail
        go_ret2
        exact ⟨by rw [HN0.out] <;> rfl, rfl⟩
      · have hv0 : D.data.toList.all digB = true → noNum true D.data.toList = false := fun hall => by
          refine (numWay true D).2.2 ⟨h0, (trim_nil _).2 hall, fun hm he => hz ⟨hm, he⟩, fun h1 he => hl ⟨h1, ?_⟩⟩
          rw [← hh, he]; rfl
        have HV : Hid (D.data.toList.all digB = true → numC x = some (sgn true ((min 1000000000001 (valD D.data.toList) : Nat) : Int))) := show _ → _ from fun h => by
          rw [HN.out, hv0 h]
          unfold valC
          simp only [Bool.false_eq_true, if_false, Option.some.injEq]
          congr 1
          omega
        have HF : Hid (D.data.toList.all digB = false → numC x = none) := show _ → _ from fun h => by
          rw [HN.out]
          have : noNum true D.data.toList = true := by unfold noNum; rw [h]; simp
          rw [this]; rfl
        have hzz : true = true → D ≠ ⟨#[48]⟩ := fun hm he => hz ⟨hm, he⟩
        have HZ := Lib.hid hzz
        clear hh hz hzz hv0 HN
        by_cases h1 : 1 < D.size
        · have z1 : (1 : Int) < (D.size : Int) := by omega
          have zz : (((D[0].toNat : Nat) : Int) == 48) = false := beq_eq_false_iff_ne.2 (fun h => hl ⟨h1, h⟩)
          clear hl
          have hz9 := not_zero (HZ.out rfl)
          go_enter Tryz.func36, Tryz.ntmps36
          go_wp2_with fail
          go_loop [5, 6] (fun n i => ∃ k q : Nat, k ≤ D.size ∧ i = .int .i64 k ∧ n = .int .i64 q ∧ q ≤ 1000000000001 ∧ Hid (q = min 1000000000001 (valD (D.data.toList.take k))) ∧ Hid ((D.data.toList.take k).all digB = true)) (fun _ i => D.size - (intOf i).toNat)
          case atStart => exact ⟨0, 0, Nat.zero_le _, rfl, rfl, by omega, rfl, rfl⟩
          case round =>
            obtain ⟨k, q, hk, rfl, rfl, hm, HM, HA⟩ := hrel
            by_cases hlt : k < D.size
            · obtain ⟨t1, t2⟩ := take_val D k hlt
              have HT1 := Lib.hid t1
              have HT2 := Lib.hid t2
              clear t1 t2
              have hx0 : (0 : Int) ≤ (D[k].toNat : Int) := by omega
              have hx1 : (D[k].toNat : Int) < 256 := by have := D[k].toNat_lt; omega
              have hx : (D[k].toNat : Int) < 48 ∨ (48 ≤ (D[k].toNat : Int) ∧ (D[k].toNat : Int) ≤ 57) ∨ 57 < (D[k].toNat : Int) := by omega
              have HBad : Hid (digB D[k] = false → numC x = none) := show _ → _ from fun hd => by
                cases hall : D.data.toList.all digB with
                | false => exact HF.out hall
                | true =>
                  have h3 : (D.data.toList.take (k + 1)).all digB = true := List.all_eq_true.2 fun y hy => List.all_eq_true.1 hall y (List.mem_of_mem_take hy)
                  rw [HT2.out, hd, Bool.and_false] at h3
                  cases h3
              clear HV HF
              rcases hx with h | ⟨h, h'⟩ | h
              · have HN : Hid (numC x = none) := show _ = _ from HBad.out (by unfold digB; simp; omega)
                clear HBad
                go_wp2_with fail
                go_ret2
                exact ⟨by rw [HN.out] <;> rfl, rfl⟩
              · have hdg : Hid (digB D[k] = true) := show _ = _ from by unfold digB; simp; omega
                clear HBad
                go_wp2_with fail
                go_round
                case rel =>
                  refine ⟨k + 1, min 1000000000001 (10 * q + (D[k].toNat - 48)), by omega, by go_num, ?_, by omega, ?_, ?_⟩
                  · congr 1; omega
                  · show _ = _
                    have := HM.out
                    rw [HT1.out]; omega
                  · show _ = _
                    rw [HT2.out, HA.out, hdg.out]; rfl
                case measure => simp [intOf]; omega
              · have HN : Hid (numC x = none) := show _ = _ from HBad.out (by unfold digB; simp; omega)
                have z48 : ¬ (D[k].toNat : Int) < 48 := by omega
                clear HBad
                go_wp2_with fail
                go_ret2
                exact ⟨by rw [HN.out] <;> rfl, rfl⟩
            · have hA2 : Hid (numC x = some (sgn true ((q : Nat) : Int))) := show _ = _ from by
                have e : D.data.toList.take k = D.data.toList := List.take_of_length_le (by simp; omega)
                have e1 := HA.out
                have e2 := HM.out
                rw [e] at e1 e2
                rw [HV.out e1, e2]
              clear HV HF HA HM
              have hw : IntKind.i64.wrap (-(q : Int)) = -(q : Int) := by rw [IntKind.wrap_i64]; omega
              go_wp2_with fail
              go_ret2
              exact ⟨by rw [hA2.out]; rfl, rfl⟩
        · have z1 : ¬ (1 : Int) < (D.size : Int) := by omega
          clear hl
          have hz9 := not_zero (HZ.out rfl)
          go_enter Tryz.func36, Tryz.ntmps36
          go_wp2_with fail
          go_loop [5, 6] (fun n i => ∃ k q : Nat, k ≤ D.size ∧ i = .int .i64 k ∧ n = .int .i64 q ∧ q ≤ 1000000000001 ∧ Hid (q = min 1000000000001 (valD (D.data.toList.take k))) ∧ Hid ((D.data.toList.take k).all digB = true)) (fun _ i => D.size - (intOf i).toNat)
          case atStart => exact ⟨0, 0, Nat.zero_le _, rfl, rfl, by omega, rfl, rfl⟩
          case round =>
            obtain ⟨k, q, hk, rfl, rfl, hm, HM, HA⟩ := hrel
            by_cases hlt : k < D.size
            · obtain ⟨t1, t2⟩ := take_val D k hlt
              have HT1 := Lib.hid t1
              have HT2 := Lib.hid t2
              clear t1 t2
              have hx0 : (0 : Int) ≤ (D[k].toNat : Int) := by omega
              have hx1 : (D[k].toNat : Int) < 256 := by have := D[k].toNat_lt; omega
              have hx : (D[k].toNat : Int) < 48 ∨ (48 ≤ (D[k].toNat : Int) ∧ (D[k].toNat : Int) ≤ 57) ∨ 57 < (D[k].toNat : Int) := by omega
              have HBad : Hid (digB D[k] = false → numC x = none) := show _ → _ from fun hd => by
                cases hall : D.data.toList.all digB with
                | false => exact HF.out hall
                | true =>
                  have h3 : (D.data.toList.take (k + 1)).all digB = true := List.all_eq_true.2 fun y hy => List.all_eq_true.1 hall y (List.mem_of_mem_take hy)
                  rw [HT2.out, hd, Bool.and_false] at h3
                  cases h3
              clear HV HF
              rcases hx with h | ⟨h, h'⟩ | h
              · have HN : Hid (numC x = none) := show _ = _ from HBad.out (by unfold digB; simp; omega)
                clear HBad
                go_wp2_with fail
                go_ret2
                exact ⟨by rw [HN.out] <;> rfl, rfl⟩
              · have hdg : Hid (digB D[k] = true) := show _ = _ from by unfold digB; simp; omega
                clear HBad
                go_wp2_with fail
                go_round
                case rel =>
                  refine ⟨k + 1, min 1000000000001 (10 * q + (D[k].toNat - 48)), by omega, by go_num, ?_, by omega, ?_, ?_⟩
                  · congr 1; omega
                  · show _ = _
                    have := HM.out
                    rw [HT1.out]; omega
                  · show _ = _
                    rw [HT2.out, HA.out, hdg.out]; rfl
                case measure => simp [intOf]; omega
              · have HN : Hid (numC x = none) := show _ = _ from HBad.out (by unfold digB; simp; omega)
                have z48 : ¬ (D[k].toNat : Int) < 48 := by omega
                clear HBad
                go_wp2_with fail
                go_ret2
                exact ⟨by rw [HN.out] <;> rfl, rfl⟩
            · have hA2 : Hid (numC x = some (sgn true ((q : Nat) : Int))) := show _ = _ from by
                have e : D.data.toList.take k = D.data.toList := List.take_of_length_le (by simp; omega)
                have e1 := HA.out
                have e2 := HM.out
                rw [e] at e1 e2
                rw [HV.out e1, e2]
              clear HV HF HA HM
              have hw : IntKind.i64.wrap (-(q : Int)) = -(q : Int) := by rw [IntKind.wrap_i64]; omega
              go_wp2_with fail
              go_ret2
              exact ⟨by rw [hA2.out]; rfl, rfl⟩
  · have hnil : D = ⟨#[]⟩ := ba_empty D (by omega)
    have HN0 : Hid (numC x = none) := show _ = _ from by rw [HN.out, hnil]; rfl
    have z0 : (D.size : Int) = 0 := by omega
    clear hnil h0 HN
    go_enter Tryz.func36, Tryz.ntmps36
    go_wp2_with fail
    go_ret2
    exact ⟨by rw [HN0.out] <;> rfl, rfl⟩
theorem rnumber_any (x : List UInt8) (hx : x.length ≤ 120) (w : World) : Calls Tryz.prog 36 #[.string ⟨x.toArray⟩] w fun e w' => e = .returned (numT (numC x)) ∧ w = w' := by
  cases hm : isMinus x
  · exact rnumber_plus x hx hm w
  · exact rnumber_minus x hx hm w
end Go.Proofs.YtkjajpfgdjfcoaaGreatDoor
namespace Go.Proofs.YtkjajpfgdjfcoaaGreatDoor
open Go.RowKit
theorem str_app (a b : List UInt8) : (⟨a.toArray⟩ : ByteArray) ++ ⟨b.toArray⟩ = ⟨(a ++ b).toArray⟩ := by
  apply ByteArray.ext
  simp
theorem decDigits_len21 (u : Nat) (h : u ≤ 1000000000000000000) : (Lib.decDigits u).length ≤ 21 := by
  have h1 := Lib.itoa_length_le (u : Int) (by omega) (by omega)
  rwa [Lib.itoa_nonneg] at h1
theorem decDigits_one {u : Nat} (h : u < 10) : Lib.decDigits u = [UInt8.ofNat (48 + u)] := by rw [Lib.decDigits, dif_pos h]
theorem dconv (r : Nat) (c : UInt8) (hc : c.toNat = 48 + r) (w : World) : (convert 184 9 (.slice (some ⟨w.heap.size, 0, none⟩) 1 1)).run Tryz.prog (w.alloc (.cells #[.int .u8 (48 + (r : Int))] 5)) = .ok (.string ⟨#[c]⟩) (w.alloc (.cells #[.int .u8 (48 + (r : Int))] 5)) := by
  have h := run_convert_bytes_back (P := Tryz.prog) (w.alloc (.cells #[.int .u8 (48 + (r : Int))] 5)) 184 9 5 ⟨w.heap.size, 0, none⟩ 1 [c] Tryz.underlying184 Tryz.underlying5 Tryz.underlying9 (fun j hj => by
    have hj0 : j = 0 := by simpa using hj
    subst hj0
    simp [Addr.add, hc])
  exact h
set_option maxRecDepth 100000 in
set_option maxHeartbeats 800000 in
theorem rdigits_nat : ∀ (N u : Nat), u ≤ N → u ≤ 1000000000000000000 → ∀ W : World, Calls Tryz.prog 45 #[.int .i64 u] W fun e w' => e = .returned (.string ⟨(Lib.decDigits u).toArray⟩) ∧ Below W.heap.size W w' := by
  intro N
  induction N with
  | zero =>
    intro u hu hb W
    obtain rfl : u = 0 := by omega
    have hconv := dconv 0 48 rfl
    simp only [Int.natCast_zero, Int.add_zero] at hconv
    go_enter Tryz.func45, Tryz.ntmps45
    go_wp2_with fail
    go_ret
    refine ⟨?_, (by repeat (first | exact Below.refl _ _ | assumption | refine balloc ?_ _ | refine below_trans ?_ (by assumption) | refine Below.drew ?_ | refine below_drewN ?_ _ | refine Below.setCell ?_ (by simp <;> omega) _))⟩
    rw [decDigits_one (by omega)]
    rfl
  | succ N ih =>
    intro u hu hb W
    obtain ⟨r, hr⟩ : ∃ r, r = u % 10 := ⟨_, rfl⟩
    have hr10 : r < 10 := by omega
    obtain ⟨c, hc⟩ : ∃ c : UInt8, c = UInt8.ofNat (48 + r) := ⟨_, rfl⟩
    have em : (u : Int).tmod 10 = (r : Int) := by rw [Int.tmod_eq_emod_of_nonneg (by omega)]; omega
    have hconv := dconv r c (by rw [hc]; exact ofNat_dig hr10)
    have n0 : ¬ (u : Int) < 0 := by omega
    have w8 : IntKind.u8.wrap (48 + (r : Int)) = 48 + (r : Int) := by simp [IntKind.wrap, IntKind.bits]; omega
    by_cases h10 : u < 10
    · have z10 : ¬ (10 : Int) ≤ (u : Int) := by omega
      have HE : Hid (Lib.decDigits u = [c]) := show _ = _ from by rw [decDigits_one h10, hc, hr, Nat.mod_eq_of_lt h10]
      clear ih hr hu hc
      go_enter Tryz.func45, Tryz.ntmps45
      go_wp2_with fail
      go_ret
      refine ⟨?_, (by repeat (first | exact Below.refl _ _ | assumption | refine balloc ?_ _ | refine below_trans ?_ (by assumption) | refine Below.drew ?_ | refine below_drewN ?_ _ | refine Below.setCell ?_ (by simp <;> omega) _))⟩
      rw [HE.out]
      rfl
    · have z10 : (10 : Int) ≤ (u : Int) := by omega
      obtain ⟨v, hv⟩ : ∃ v, v = u / 10 := ⟨_, rfl⟩
      have ed : (u : Int).tdiv 10 = (v : Int) := by rw [Int.tdiv_eq_ediv_of_nonneg (by omega)]; omega
      have ed2 : (u : Int) / 10 = (v : Int) := by omega
      have HI := Lib.hid (ih v (by omega) (by omega))
      have HE : Hid (Lib.decDigits u = Lib.decDigits v ++ [c]) := show _ = _ from by rw [decDigits_big h10, hc, hr, hv]
      have hDl : (Lib.decDigits v).length ≤ 21 := decDigits_len21 v (by omega)
      clear ih hr hu hc hv
      generalize Lib.decDigits v = D at *
      go_enter Tryz.func45, Tryz.ntmps45
      go_wp2_with fail
      with_reducible refine (HI.out _).mono ?_
      rintro e w1 ⟨rfl, hb1⟩
      have hB := below_trans (balloc (Below.refl W.heap.size W) (.cells #[.int .u8 (48 + (r : Int))] 5)) hb1
      clear hb1
      go_wp2_with fail
      go_ret
      refine ⟨?_, hB⟩
      rw [HE.out, ← str_app]
      rfl
theorem rdigits_any (n : Int) (h0 : -1000000000000000000 ≤ n) (h1 : n ≤ 1000000000000000000) (W : World) : Calls Tryz.prog 45 #[.int .i64 n] W fun e w' => e = .returned (.string ⟨(Lib.itoa n).toArray⟩) ∧ Below W.heap.size W w' := by
  by_cases hn : n < 0
  · have HI := Lib.hid (rdigits_nat n.natAbs n.natAbs (Nat.le_refl _) (by omega))
    have en : ((n.natAbs : Nat) : Int) = -n := by omega
    rw [en] at HI
    have HE : Hid (Lib.itoa n = 45 :: Lib.decDigits n.natAbs) := show _ = _ from by unfold Lib.itoa; rw [if_pos hn]
    have hw : IntKind.i64.wrap (-n) = -n := by rw [IntKind.wrap_i64]; omega
    have hDl : (Lib.decDigits n.natAbs).length ≤ 21 := decDigits_len21 _ (by omega)
    clear en
    generalize Lib.decDigits n.natAbs = D at *
    go_enter Tryz.func45, Tryz.ntmps45
    go_wp2_with fail
    refine (HI.out _).mono ?_
    rintro e w1 ⟨rfl, hb1⟩
    go_wp2_with fail
    go_ret
    refine ⟨?_, hb1⟩
    rw [HE.out, show (45 :: D : List UInt8) = [45] ++ D from rfl, ← str_app]
    rfl
  · have h := rdigits_nat n.toNat n.toNat (Nat.le_refl _) (by omega) W
    rw [show ((n.toNat : Nat) : Int) = n by omega] at h
    have e : Lib.itoa n = Lib.decDigits n.toNat := by unfold Lib.itoa; rw [if_neg hn]
    rw [e]; exact h
end Go.Proofs.YtkjajpfgdjfcoaaGreatDoor
