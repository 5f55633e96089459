import Derived.Test.YtmglbegbijofkaaGreatDoorW37
set_option linter.unusedVariables false
set_option linter.unusedSimpArgs false
namespace Go.Proofs.YtmglbegbijofkaaGreatDoor
open Go.RowKit Go.Maps Go.WideMaps

theorem nmKey_lit (l : List Craft) : ∀ x ∈ l.map nmKey, WideAt.IsKeyLit x := by
  intro x hx
  obtain ⟨c, _, rfl⟩ := List.mem_map.1 hx
  trivial
def earlier (l : List Craft) (i : Nat) : Bool := ((l.take i).map nmKey).any fun x => x.sameKey (nmKey (crAt l i))
theorem nmSet_size_succ (l : List Craft) (k : Nat) (hk : k < l.length) : Maps.size (nmSet (H := Unit) l (k + 1)) = if earlier l k then Maps.size (nmSet (H := Unit) l k) else Maps.size (nmSet (H := Unit) l k) + 1 := by
  rw [nmSet_succ l k hk]
  unfold nmSet
  rw [size_put (tidy_setOf _ _ (nmKey_lit _)), has_setOf _ _ _ (nmKey_lit _)]
  rfl
theorem nmSet_size (l : List Craft) : ∀ k, k ≤ l.length → Maps.size (nmSet (H := Unit) l k) ≤ k ∧ (Maps.size (nmSet (H := Unit) l k) = k ↔ ∀ i, i < k → earlier l i = false)
  | 0, _ => by
    rw [nmSet_zero]
    exact ⟨Nat.le_refl _, ⟨fun _ i hi => by omega, fun _ => rfl⟩⟩
  | k + 1, hk => by
    obtain ⟨h1, h2⟩ := nmSet_size l k (by omega)
    rw [nmSet_size_succ l k (by omega)]
    cases he : earlier l k with
    | true =>
      refine ⟨by simp; omega, ⟨fun h => ?_, fun h => ?_⟩⟩
      · simp at h; omega
      · have := h k (by omega); rw [he] at this; cases this
    | false =>
      refine ⟨by simp; omega, ⟨fun h i hi => ?_, fun h => ?_⟩⟩
      · simp at h
        by_cases e : i = k
        · subst e; exact he
        · exact h2.1 h i (by omega)
      · simp
        exact h2.2 (fun i hi => h i (by omega))
theorem earlier_iff (l : List Craft) (i : Nat) (hi : i < l.length) : earlier l i = true ↔ ∃ j, j < i ∧ (crAt l j).nm = (crAt l i).nm := by
  unfold earlier
  rw [List.any_eq_true]
  constructor
  · rintro ⟨x, hx, hs⟩
    obtain ⟨c, hc, rfl⟩ := List.mem_map.1 hx
    obtain ⟨j, hj, rfl⟩ := List.mem_iff_getElem.1 hc
    have hj' : j < i := by rw [List.length_take] at hj; omega
    have := WideAt.sameKey_eq hs
    refine ⟨j, hj', ?_⟩
    have e : (l.take i)[j] = crAt l j := by simp [crAt, show j < l.length by omega]
    rw [e] at this
    unfold nmKey at this
    injection this with this
    exact ByteArray.ext (Array.ext' this)
  · rintro ⟨j, hj, he⟩
    refine ⟨nmKey (crAt l j), List.mem_map.2 ⟨crAt l j, ?_, rfl⟩, ?_⟩
    · rw [List.mem_iff_getElem]
      exact ⟨j, by rw [List.length_take]; omega, by simp [crAt, show j < l.length by omega]⟩
    · unfold nmKey; rw [he]; simp [Lit.sameKey]
theorem fleet_dup {l : List Craft} (h0 : flE l l.length 0 = 0) {i j : Nat} (hi : i < l.length) (hj : j < i) (he : (crAt l j).nm = (crAt l i).nm) : fleetE l = 5 := by
  have hs := nmSet_size l l.length (Nat.le_refl _)
  have h1 : ¬ Maps.size (nmSet (H := Unit) l l.length) = l.length := fun h => by
    have := hs.2.1 h i hi
    rw [(earlier_iff l i hi).2 ⟨j, hj, he⟩] at this
    cases this
  unfold fleetE
  rw [h0]
  simp only [ne_eq, not_true, if_false]
  rw [if_pos (by omega)]
theorem fleet_nodup {l : List Craft} (h0 : flE l l.length 0 = 0) (h : ∀ i, i < l.length → ∀ j, j < i → ¬ (crAt l j).nm = (crAt l i).nm) : fleetE l = 0 := by
  have hs := nmSet_size l l.length (Nat.le_refl _)
  have h1 : Maps.size (nmSet (H := Unit) l l.length) = l.length := hs.2.2 (fun i hi => by
    cases he : earlier l i with
    | false => rfl
    | true =>
      obtain ⟨j, hj, hn⟩ := (earlier_iff l i hi).1 he
      exact absurd hn (h i hi j hj))
  unfold fleetE
  rw [h0]
  simp only [ne_eq, not_true, if_false]
  rw [if_neg (by omega)]
theorem fleet_err {l : List Craft} (h0 : ¬ flE l l.length 0 = 0) : fleetE l = flE l l.length 0 := by
  unfold fleetE; rw [if_pos h0]

theorem bytes_ne {a b : ByteArray} (h : ¬ a = b) : (a.toList == b.toList) = false := by
  rw [beq_eq_false_iff_ne]
  intro e
  rw [ByteArray.toList_eq, ByteArray.toList_eq] at e
  exact h (ByteArray.ext (Array.ext' e))
set_option maxRecDepth 100000 in
set_option maxHeartbeats 2000000 in
theorem rcrafts_any (v : Value) (l : List Craft) (w : World) (hv : CraftsAt w v l) (hn : l.length ≤ 1000000) :
    Calls Tryz.prog 109 #[v] w fun e w' => e = .returned (.int .i64 (fleetE l)) ∧ Below w.heap.size w w' := by
  obtain ⟨a, c, rfl, hx⟩ := id hv.row
  clear hx
  have HV := Lib.hid hv
  clear hv
  go_enter Tryz.func109, Tryz.ntmps109
  go_wp2_with fail
  go_loopw [3] (fun i wr => ∃ k : Nat, k ≤ l.length ∧ i = .int .i64 k ∧ Below w.heap.size w wr ∧ Hid (flE l l.length 0 = flE l (l.length - k) k)) (fun i _ => l.length - (intOf i).toNat)
  case atStart => exact ⟨0, Nat.zero_le _, rfl, Below.refl _ _, rfl⟩
  case round =>
    obtain ⟨k, hk, rfl, hB, HI⟩ := hrel
    by_cases hlt : k < l.length
    · have hv2 := HV.out.below hB
      obtain ⟨a', c', hac, h0 | ⟨b, off, rfl, hb, hc⟩⟩ := hv2.row
      · omega
      · simp only [Value.slice.injEq] at hac
        obtain ⟨rfl, _, rfl⟩ := hac
        obtain ⟨s0, s1, s2, s3, s4, s5⟩ := craft_cells hc hlt
        have hsg := hv2.at_ k hlt
        have hs1 := hv2.nm k hlt
        have hs2 := hv2.sg k hlt
        have HS : Hid (flE l (l.length - k) k = if crErr (crAt l k) ≠ 0 then crErr (crAt l k) else flE l (l.length - (k + 1)) (k + 1)) := show _ = _ from by rw [show l.length - k = (l.length - (k + 1)) + 1 by omega]; rfl
        have HC := Lib.hid (fun W (h : SightsAt W (crAt l k).v (crAt l k).ss) => rcraft_any (crAt l k).nm (crAt l k).sp (crAt l k).cl (crAt l k).lo (crAt l k).hi (crAt l k).v (crAt l k).ss W h hs1 hs2)
        have HX : Hid (crErr (crAt l k) = crE (crAt l k).nm.data.toList (crAt l k).sp (crAt l k).cl (crAt l k).lo (crAt l k).hi (crAt l k).ss) := show _ = _ from rfl
        rw [← HX.out] at HC
        unfold ErrPair at HC
        generalize crErr (crAt l k) = E at *
        have HSG := Lib.hid hsg
        clear hc hv2 hsg HX hs1 hs2
        generalize crI (crAt l k).nm.data.toList (crAt l k).sp (crAt l k).cl (crAt l k).lo (crAt l k).hi (crAt l k).ss = I at *
        generalize crAt l k = x at *
        obtain ⟨xnm, xsp, xcl, xlo, xhi, xv, xss⟩ := x
        simp only at *
        go_wp2_with fail
        refine (HC.out _ HSG.out).mono ?_
        rintro e w2 ⟨rfl, hb2⟩
        have hB2 : Below w.heap.size w w2 := below_trans hB hb2
        clear hb2 hB s0 s1 s2 s3 s4 s5
        by_cases hz : E = 0
        · have hz' : (E != 0) = false := by simpa using hz
          have HZ := Lib.hid hz
          clear hz
          go_wp2_with fail
          go_roundw
          case rel => exact ⟨k + 1, by omega, by go_num, hB2, by unfold Hid; rw [HI.out, HS.out, HZ.out]; simp⟩
          case measure => simp [intOf]; omega
        · have hz' : (E != 0) = true := by simpa using hz
          have HF : Hid (fleetE l = E) := show _ = _ from by
            have h1 : flE l l.length 0 = E := by rw [HI.out, HS.out, if_pos hz]
            rw [fleet_err (by rw [h1]; exact hz), h1]
          clear hz
          go_wp2_with fail
          go_ret
          exact ⟨ret_int HF.out.symm, hB2⟩
    · obtain rfl : k = l.length := by omega
      have H0 : Hid (flE l l.length 0 = 0) := show _ = _ from by rw [HI.out, Nat.sub_self]; rfl
      clear HI
      go_wp2_with fail
      go_loopw [6, 7] (fun i _ wr => ∃ k : Nat, k ≤ l.length ∧ i = .int .i64 k ∧ Below w.heap.size w wr ∧ Hid (∀ i, i < k → ∀ j, j < i → ¬ (crAt l j).nm = (crAt l i).nm)) (fun i _ _ => l.length - (intOf i).toNat)
      case atStart => exact ⟨0, Nat.zero_le _, rfl, hB, fun i hi => by omega⟩
      case round =>
        obtain ⟨k, hk, rfl, hB, HD⟩ := hrel
        obtain ⟨wo, rfl⟩ : ∃ wo : World, wo = wr := ⟨_, rfl⟩
        by_cases hlt : k < l.length
        · go_wp2_with fail
          go_loopw [7] (fun i wr => ∃ q : Nat, q ≤ k ∧ i = .int .i64 q ∧ Below w.heap.size w wr ∧ Hid (∀ j, j < q → ¬ (crAt l j).nm = (crAt l k).nm)) (fun i _ => k - (intOf i).toNat)
          case atStart => exact ⟨0, Nat.zero_le _, rfl, hB, fun j hj => by omega⟩
          case round =>
            obtain ⟨q, hq, rfl, hB, HQ⟩ := hrel
            by_cases hqk : q < k
            · have hv2 := HV.out.below hB
              obtain ⟨a', c', hac, h0 | ⟨b, off, rfl, hb, hc⟩⟩ := hv2.row
              · omega
              · simp only [Value.slice.injEq] at hac
                obtain ⟨rfl, _, rfl⟩ := hac
                have n1 := (craft_cells hc hlt).1
                have n2 := (craft_cells hc (show q < l.length by omega)).1
                have i1 : (0 : Int) ≤ (k : Int) := by omega
                have i2 : (k : Int) < (l.length : Int) := by omega
                have i3 : (0 : Int) ≤ (q : Int) := by omega
                have i4 : (q : Int) < (l.length : Int) := by omega
                have i5 : q < l.length := by omega
                clear hc hv2
                by_cases he : (crAt l k).nm = (crAt l q).nm
                · have HF := Lib.hid (fleet_dup H0.out hlt hqk he.symm)
                  generalize (crAt l k).nm = na at *
                  generalize (crAt l q).nm = nb at *
                  clear HD HQ
                  go_wp2_with fail
                  go_quiet (fail)
                  go_wp2_with fail
                  go_ret
                  exact ⟨ret_int HF.out.symm, below_drewN' hB _⟩
                · have HQ1 : Hid (∀ j, j < q + 1 → ¬ (crAt l j).nm = (crAt l k).nm) := fun j hj => by
                    by_cases e : j = q
                    · subst e; exact fun h => he h.symm
                    · exact HQ.out j (by omega)
                  have hee := bytes_ne he
                  go_wp2_with fail
                  go_quiet (fail)
                  go_wp2_with fail
                  go_roundw
                  case rel => exact ⟨q + 1, by omega, by go_num, below_drewN' hB _, HQ1⟩
                  case measure => simp [intOf]; omega
            · obtain rfl : q = k := by omega
              have HD1 : Hid (∀ i, i < q + 1 → ∀ j, j < i → ¬ (crAt l j).nm = (crAt l i).nm) := fun i hi j hj => by
                by_cases e : i = q
                · subst e; exact HQ.out j hj
                · exact HD.out i (by omega) j hj
              go_wp2_with fail
              go_roundw
              case rel => exact ⟨q + 1, by omega, by go_num, hB, HD1⟩
              case measure => simp [intOf]; omega
        · obtain rfl : k = l.length := by omega
          have HF := Lib.hid (fleet_nodup H0.out HD.out)
          go_wp2_with fail
          go_ret
          exact ⟨ret_int HF.out.symm, hB⟩
end Go.Proofs.YtmglbegbijofkaaGreatDoor
