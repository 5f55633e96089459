/- Proved: the card of OfficerLines, second form (for any string and any line the law returns true and leaves its arguments as they were); its conditions: what it reads holds together at most 1048576 values and letters; none else beyond the row's own (the listed package-level variables start as the program's text lays them). -/
import Derived.Test.YtkjajpfgdjfcoaaGreatDoorCards
import Derived.Test.YtkjajpfgdjfcoaaGreatDoorOX
import Derived.Test.YtkjajpfgdjfcoaaGreatDoorOLz
import Derived.Test.YtkjajpfgdjfcoaaGreatDoorPH
import Derived.Test.YtkjajpfgdjfcoaaGreatDoorPK
import Derived.Test.YtkjajpfgdjfcoaaGreatDoorOFuOfficerLines
import Derived.Test.YtkjajpfgdjfcoaaGreatDoorOTuOfficerLines
import Derived.Test.YtkjajpfgdjfcoaaGreatDoorOMuOfficerLines
set_option linter.unusedVariables false
set_option linter.unusedSimpArgs false
namespace Go.Proofs.YtkjajpfgdjfcoaaGreatDoor
open Go Go.ChangeShapes Go.WideShapes Go.ChangeAt Go.RowKit
namespace OfficerLines
set_option maxRecDepth 100000 in
theorem contract (H : Type) (enc : TypeId × Value → H) (W : World) (base : Nat) (args : Array Value) (ds gs : List (DataW H)) (before : List MemPlace)
    (hval : ∀ (j : Nat) t v, Tryz.f5.params[j]? = some t → args[j]? = some v → Value.okWide Tryz.prog W .any base t v)
    (hW : DataW.Whole enc Tryz.prog Tryz.f5.params.toList Rows.officerLinesSpec.vars false W args.toList ds gs before) (hk : Rows.uptoSmall H (ds ++ gs) = true) (hL : laidMetH Tryz.prog Rows.officerLinesUptoRow.laid W) :
    Calls Tryz.prog 5 args W fun e W' => ∃ v, e = .returned v ∧ Rows.officerLinesSpec.post enc Tryz.prog Tryz.f5 false true false false W args v W' := by
  have hW' := hW
  obtain ⟨p, q, hA0, hV, rfl, hfz, hnd⟩ := hW
  have hA : DataW.TrodAll enc Tryz.prog W 0 (fun _ => true) true Tryz.f5.params.toList args.toList ds p := hA0
  rw [Tryz.params5] at hA hval
  obtain ⟨v0, v1, d0, d1, p0, p1, rfl, rfl, rfl, h0, h1⟩ := trodAll_two hA
  obtain ⟨rfl, rfl⟩ := trodVars_none hV
  obtain ⟨s, rfl, hsz⟩ := open_str (hval 0 9 v0 rfl rfl) h0
  obtain ⟨a, k, nm, nv, ls, rfl, hri, hab, hnb, hnl, hll⟩ := open_line (hval 1 84 v1 rfl rfl) h1
  have hb0 := upto_mem hk (d := d0) (by simp)
  have hb1 := upto_mem hk (d := d1) (by simp)
  have es : s = ⟨s.data.toList.toArray⟩ := by cases s; simp
  have en : nm = ⟨nm.data.toList.toArray⟩ := by cases nm; simp
  have hls : s.data.toList.length = s.size := by simp
  have hln : nm.data.toList.length = nm.size := by simp
  have ht := tabs_officerLines hL
  have hlaw := law_lines s.data.toList a k nm.data.toList nv ls W (tab10_lines hL) (fun W' hb => awake_known W' (ht.below hb)) (by omega) hri (by omega) hnb (by omega) hab
  rw [← es, ← en] at hlaw
  refine hlaw.mono fun e W' ⟨he, hb⟩ => ?_
  subst he
  exact ⟨_, rfl, law_post hW' rfl (by kernel_rfl) (by kernel_rfl) rfl rfl rfl hb⟩
theorem reads (os : Os) {H : Type} (enc : TypeId × Value → H) : ∃ places, DataW.whole enc Tryz.prog ((laidWorld os).forCall (fun _ _ => 0) ⟨#[], #[.string ⟨#[]⟩, .agg #[.int .i64 0, .int .i64 0, .string ⟨#[]⟩, .slice none 0 0]], []⟩).memory Tryz.f5.params.toList Rows.officerLinesSpec.vars false (#[.string ⟨#[]⟩, .agg #[.int .i64 0, .int .i64 0, .string ⟨#[]⟩, .slice none 0 0]] : Array Value).toList 8 = some ([.lit (.string []), .agg [.lit (.int .i64 0), .lit (.int .i64 0), .lit (.string []), .nil]], [], places) :=
  ⟨[], by kernel_rfl⟩
set_option maxRecDepth 100000 in
theorem lifted (os : Os) (started : os.Started) (H : Type) (enc : TypeId × Value → H) (F : Stop.Interp) :
    ReturnsInHanded {} Tryz.checked os 5 .any ((Rows.OpenSpec.upto Rows.officerLinesSpec).preRow enc Tryz.prog Tryz.f5 Rows.officerLinesUptoRow.domain false Rows.officerLinesUptoRow.laid) (((Rows.OpenSpec.upto Rows.officerLinesSpec).at F).post enc Tryz.prog Tryz.f5 false true false false) := by
  obtain ⟨places, hx⟩ := reads os enc
  refine returnsInHanded_of_row (C := Tryz.checked) (s := Rows.OpenSpec.upto Rows.officerLinesSpec) own started (by kernel_rfl) Tryz.func5
    (witness_row_atRef (enc := enc) (C := Tryz.checked) false (laidWorld os) #[.string ⟨#[]⟩, .agg #[.int .i64 0, .int .i64 0, .string ⟨#[]⟩, .slice none 0 0]] rfl (by kernel_rfl) (by kernel_rfl) (by kernel_rfl)
      (OpenSpec.preRow_of_cond 8 hx (by kernel_rfl) (fun k hk => by cases hk; kernel_rfl) (by kernel_rfl) (laid_officerLines os _))) ?_
  intro W base args ds gs before hval hW _ hc _ hL _ _
  exact contract H enc W base args ds gs before hval hW (hc _ rfl) hL
theorem said : Rows.OfficerLinesUptoSaid :=
  OpenClaim.holds_of_cond 5 Tryz.f5 rfl rfl rfl rfl rfl rfl rfl ⟨rfl, rfl, rfl, rfl, rfl⟩ rfl rfl rfl rfl rfl (by as_aux_lemma => kernel_rfl) Tryz.func5 officerLinesUptoFacts
    (of_decide_eq_true (by as_aux_lemma => kernel_rfl)) (by unfold Func.isWrapper; first | (rw [if_pos (by decide +kernel)]; kernel_rfl) | (rw [if_neg (by decide +kernel)]; exact ⟨rfl, rfl⟩))
    (fun os started H enc _ F => by rw [OpenClaim.pre_eq_preRow]; exact lifted os started H enc F)
theorem plain (f : FuncId) (fn : Func) (hf : Tryz.pinned.checked.prog.funcNamed Rows.officerLinesUptoRow.func = some f) (hfn : Tryz.pinned.checked.prog.funcs[f]? = some fn) :
    true = Tryz.pinned.checked.prog.looks [] ∧ ∀ (j : Nat) t, fn.params[j]? = some t → Tryz.pinned.checked.prog.wantsStandIn t = false := by
  obtain rfl : f = 5 := Option.some.inj ((show Tryz.prog.funcNamed "hangfire/hangfirelaw12.OfficerLines" = some 5 by kernel_rfl).symm.trans hf) |>.symm
  obtain rfl : fn = Tryz.f5 := (Option.some.inj (Tryz.func5.symm.trans hfn)).symm
  refine ⟨officerLinesUptoCard_d, fun j t ht => ?_⟩
  rw [Tryz.params5] at ht
  rcases j with _ | _ | j
  · simp at ht; rw [← ht]; exact stand9
  · simp at ht; rw [← ht]; exact stand84
  · simp at ht
theorem card : Rows.OfficerLinesUptoCardSaid :=
  Claim7.holds_tied_plain_at .later [] _ _ _ _ said (fun _ h => by cases h) officerLinesUptoCard_a (fun _ h => by cases h) officerLinesUpto_row_tie rfl ⟨rfl, rfl⟩ officerLinesUptoCard_b rfl plain (goesAt_none Rows.officerLinesUptoRow.func).symm
end OfficerLines
end Go.Proofs.YtkjajpfgdjfcoaaGreatDoor
