import Derived.Test.YtmglbegbijofkaaGreatDoorQ13
import Derived.Test.YtmglbegbijofkaaGreatDoorQ04
import Derived.Test.YtmglbegbijofkaaGreatDoorQ00
set_option linter.unusedVariables false
set_option linter.unusedSimpArgs false
namespace Go.Proofs.YtmglbegbijofkaaGreatDoor
open Go.RowKit

set_option maxRecDepth 100000 in
set_option maxHeartbeats 800000 in
theorem people_any (cx cy size cols rows : Int) (pv sv : Value) (out price : Int) (zs : List Int) (ps : List (Int × Int)) (w : World) (hv : IntsAt w pv zs) (hs : SpansAt w sv ps) (hz : ∀ z ∈ zs, 0 ≤ z ∧ z ≤ 1000000) (hp : PartsOK zs ps) (hn : ps.length ≤ 1000000) :
    Calls Tryz.prog 88 #[.agg #[.int .i64 cx, .int .i64 cy, .int .i64 size, .int .i64 cols, .int .i64 rows, pv], .agg #[sv, .int .i64 out, .int .i64 price]] w fun e w' => e = .returned (.int .i64 (ppl zs ps)) ∧ Below w.heap.size w w' := by
  obtain ⟨a, c, rfl, hx⟩ := id hs
  obtain ⟨a2, c2, rfl, hy⟩ := id hv
  clear hx hy
  have HV := Lib.hid hv
  have HS := Lib.hid hs
  have HZ := Lib.hid hz
  have HP := Lib.hid hp
  clear hv hs hz hp
  go_enter Tryz.func88, Tryz.ntmps88
  go_wp2_with fail
  have m5 : ((w.alloc (.cells #[.int .i64 cx, .int .i64 cy, .int .i64 size, .int .i64 cols, .int .i64 rows, .slice a2 zs.length c2] 42)).alloc (.cells #[.slice a ps.length c, .int .i64 out, .int .i64 price] 47)).cell? ⟨w.heap.size, 5, none⟩ = some (.slice a2 zs.length c2) := by simp
  have hW : Below w.heap.size w ((w.alloc (.cells #[.int .i64 cx, .int .i64 cy, .int .i64 size, .int .i64 cols, .int .i64 rows, .slice a2 zs.length c2] 42)).alloc (.cells #[.slice a ps.length c, .int .i64 out, .int .i64 price] 47)) := (by repeat (first | exact Below.refl _ _ | assumption | refine balloc ?_ _ | refine below_trans ?_ (by assumption) | refine Below.drew ?_ | refine below_drewN ?_ _ | refine Below.setCell ?_ (by simp <;> omega) _))
  generalize (w.alloc (.cells #[.int .i64 cx, .int .i64 cy, .int .i64 size, .int .i64 cols, .int .i64 rows, .slice a2 zs.length c2] 42)).alloc (.cells #[.slice a ps.length c, .int .i64 out, .int .i64 price] 47) = W1 at *
  have hsz : w.heap.size < W1.heap.size := World.block_lt_of_cell? _ _ m5
  go_loopw [4, 10] (fun n i wr => ∃ k : Nat, k ≤ ps.length ∧ i = .int .i64 k ∧ n = .int .i64 (ppl zs (ps.take k)) ∧ Below W1.heap.size W1 wr) (fun _ i _ => ps.length - (intOf i).toNat)
  case atStart => exact ⟨0, Nat.zero_le _, rfl, by simp [ppl], Below.refl _ _⟩
  case round =>
    obtain ⟨k, hk, rfl, rfl, hB⟩ := hrel
    by_cases hlt : k < ps.length
    · have hBw := below_trans hW hB
      obtain ⟨a', c', hac, h0 | ⟨b, off, rfl, hb, hc⟩⟩ := HS.out.below hBw
      · omega
      · simp only [Value.slice.injEq] at hac
        obtain ⟨rfl, _, rfl⟩ := hac
        have hck := hc (k * 2) (by omega)
        have hck1 := hc (k * 2 + 1) (by omega)
        rw [spanF_even ps k hlt] at hck
        rw [spanF_odd ps k hlt, ← Nat.add_assoc] at hck1
        have hpk := HP.out ps[k] (List.getElem_mem hlt)
        have HT := Lib.hid (ppl_snoc zs (ps.take k) ps[k])
        have HTK : Hid (ps.take (k + 1) = ps.take k ++ [ps[k]]) := show _ = _ from List.take_succ_eq_append_getElem hlt
        have hbd := ppl_bd zs HZ.out (ps.take k) (fun q hq => HP.out q (List.mem_of_mem_take hq))
        have hlk : (ps.take k).length ≤ 1000000 := by simp; omega
        have hzi : 0 ≤ zs.getD ps[k].1.toNat 0 ∧ zs.getD ps[k].1.toNat 0 ≤ 1000000 := by
          have hl : ps[k].1.toNat < zs.length := by omega
          have := HZ.out zs[ps[k].1.toNat] (List.getElem_mem hl)
          simpa [hl] using this
        obtain ⟨a3, c3, hac3, h0 | ⟨b3, off3, rfl, hb3, hc3⟩⟩ := HV.out.below hBw
        · omega
        · simp only [Value.slice.injEq] at hac3
          obtain ⟨rfl, _, rfl⟩ := hac3
          have hzc := hc3 ps[k].1.toNat (by omega)
          unfold intF at hzc
          have m5' := below_cell hB m5
          have HTT : Hid (ppl zs (ps.take (k + 1)) = ppl zs (ps.take k) + ps[k].2 * zs.getD ps[k].1.toNat 0) := show _ = _ from by rw [HTK.out, HT.out]
          rw [← List.getD_eq_getElem?_getD] at hzc
          generalize zs.getD ps[k].1.toNat 0 = z at *
          generalize ppl zs (ps.take k) = acc at *
          obtain ⟨q1, q2, q3, q4⟩ := hpk
          generalize ps[k].1 = pc at *
          generalize ps[k].2 = pp at *
          obtain ⟨r1, r2⟩ := mul_bd pp z 1000000 1000000 q3 q4 hzi.1 hzi.2
          have o1 := IntWalk.i64_in (pp * z) ⟨by omega, by omega⟩
          have o2 := IntWalk.i64_in (acc + pp * z) ⟨by omega, by omega⟩
          have hbs : b < wr.heap.size := hb
          have hbs3 : b3 < wr.heap.size := hb3
          have hszr : w.heap.size < wr.heap.size := World.block_lt_of_cell? _ _ m5'
          clear hc hc3 HT HTK hbd hlk hzi
          go_wp2_with fail
          go_quiet (fail)
          clear o1 o2
          go_wp2_with fail
          go_roundw
          case rel => exact ⟨k + 1, by omega, by go_num, by rw [HTT.out], below_drewN' (balloc hB _) _⟩
          case measure => simp [intOf]; omega
    · obtain rfl : k = ps.length := by omega
      go_wp2_with fail
      go_ret
      exact ⟨ret_int (by rw [List.take_length]), below_trans hW hB⟩

end Go.Proofs.YtmglbegbijofkaaGreatDoor
