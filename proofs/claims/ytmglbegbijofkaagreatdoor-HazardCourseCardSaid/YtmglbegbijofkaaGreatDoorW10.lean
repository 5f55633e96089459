import Derived.Test.YtmglbegbijofkaaGreatDoorW8
import Derived.Test.YtmglbegbijofkaaGreatDoorW9
import Derived.Maps.Own
import Derived.Maps.OwnOps
import Derived.Maps.OwnSet
import Derived.Maps.Views
set_option linter.unusedVariables false
set_option linter.unusedSimpArgs false
namespace Go.Proofs.YtmglbegbijofkaaGreatDoor
open Go.RowKit Go.Maps Go.WideMaps

/-- a craft as it lies in memory: its sights' slice, and what that holds -/
structure Craft where
  nm : ByteArray
  sp : Int
  cl : Int
  lo : Int
  hi : Int
  v : Value
  ss : List Sight
def Craft.zero : Craft := ⟨ByteArray.empty, 0, 0, 0, 0, .slice none 0 0, []⟩
def crAt (l : List Craft) (k : Nat) : Craft := l.getD k Craft.zero
def crF (l : List Craft) (i : Nat) : Value :=
  if i % 6 = 0 then .string (crAt l (i / 6)).nm else if i % 6 = 1 then .int .i64 (crAt l (i / 6)).sp else if i % 6 = 2 then .int .i64 (crAt l (i / 6)).cl else if i % 6 = 3 then .int .i64 (crAt l (i / 6)).lo else if i % 6 = 4 then .int .i64 (crAt l (i / 6)).hi else (crAt l (i / 6)).v
theorem crF_at (l : List Craft) (k j : Nat) (hj : j < 6) : crF l (k * 6 + j) = if j = 0 then .string (crAt l k).nm else if j = 1 then .int .i64 (crAt l k).sp else if j = 2 then .int .i64 (crAt l k).cl else if j = 3 then .int .i64 (crAt l k).lo else if j = 4 then .int .i64 (crAt l k).hi else (crAt l k).v := by
  unfold crF
  rw [show (k * 6 + j) % 6 = j by omega, show (k * 6 + j) / 6 = k by omega]
/-- a slice of crafts -/
structure CraftsAt (w : World) (v : Value) (l : List Craft) : Prop where
  row : RowAt w v l.length 6 (crF l)
  at_ : ∀ k, k < l.length → SightsAt w (crAt l k).v (crAt l k).ss
  nm : ∀ k, k < l.length → (crAt l k).nm.size ≤ 9223372036854775806
  sg : ∀ k, k < l.length → (crAt l k).ss.length ≤ 9223372036854775806
theorem CraftsAt.below {w w' : World} {v : Value} {l : List Craft} (h : CraftsAt w v l) (hb : Below w.heap.size w w') : CraftsAt w' v l :=
  ⟨h.row.below hb, fun k hk => (h.at_ k hk).below hb, h.nm, h.sg⟩
theorem craft_cells {w : World} {b off : Nat} {l : List Craft} {k : Nat} (hc : ∀ i, i < l.length * 6 → w.cell? ⟨b, off + i, none⟩ = some (crF l i)) (hk : k < l.length) :
    w.cell? ⟨b, off + k * 6, none⟩ = some (.string (crAt l k).nm) ∧ w.cell? ⟨b, off + k * 6 + 1, none⟩ = some (.int .i64 (crAt l k).sp) ∧ w.cell? ⟨b, off + k * 6 + 2, none⟩ = some (.int .i64 (crAt l k).cl) ∧ w.cell? ⟨b, off + k * 6 + 3, none⟩ = some (.int .i64 (crAt l k).lo) ∧ w.cell? ⟨b, off + k * 6 + 4, none⟩ = some (.int .i64 (crAt l k).hi) ∧ w.cell? ⟨b, off + k * 6 + 5, none⟩ = some (crAt l k).v := by
  have h := fun j (hj : j < 6) => (hc (k * 6 + j) (by omega)).trans (congrArg some (crF_at l k j hj))
  refine ⟨?_, ?_, ?_, ?_, ?_, ?_⟩
  · exact h 0 (by omega)
  · rw [Nat.add_assoc]; exact h 1 (by omega)
  · rw [Nat.add_assoc]; exact h 2 (by omega)
  · rw [Nat.add_assoc]; exact h 3 (by omega)
  · rw [Nat.add_assoc]; exact h 4 (by omega)
  · rw [Nat.add_assoc]; exact h 5 (by omega)
def crErr (c : Craft) : Int := crE c.nm.data.toList c.sp c.cl c.lo c.hi c.ss
/-- the error of the first craft that has one, among n from k on -/
def flE (l : List Craft) : Nat → Nat → Int
  | 0, _ => 0
  | n + 1, k => if crErr (crAt l k) ≠ 0 then crErr (crAt l k) else flE l n (k + 1)
def nmKey (c : Craft) : Lit := .string c.nm.data.toList
def nmSet {H : Type} (l : List Craft) (k : Nat) : DataW H := setOf (.lit (.bool true)) ((l.take k).map nmKey)
theorem nmSet_succ {H : Type} (l : List Craft) (k : Nat) (hk : k < l.length) : nmSet (H := H) l (k + 1) = (nmSet l k).put (nmKey (crAt l k)) (.lit (.bool true)) := by
  unfold nmSet
  rw [take_snoc_map nmKey l k hk, setOf_snoc]
  simp [crAt, hk]
theorem nmSet_zero {H : Type} (l : List Craft) : nmSet (H := H) l 0 = .map [] := by simp [nmSet, setOf]
def fleetE (l : List Craft) : Int := if flE l l.length 0 ≠ 0 then flE l l.length 0 else if Maps.size (nmSet (H := Unit) l l.length) < l.length then 5 else 0
theorem Tryz.key9 : Keyed Tryz.prog 9 := string_keyed Tryz.underlying9
theorem ownsMap_below {H : Type} {w w' : World} {P : Program} {k : TypeId} {R : Value → Option (DataW H × List MemPlace)} {b n : Nat} {D : DataW H} (h : w.ownsMap P k R b n D) (hb : Below w.heap.size w w') : w'.ownsMap P k R b n D := by
  have hlt := h.lt
  obtain ⟨es, clock, h1, h2⟩ := h
  exact ⟨es, clock, (hb.block b hlt).trans h1, h2⟩

set_option maxRecDepth 100000 in
set_option maxHeartbeats 2000000 in
theorem fleet_any (v : Value) (l : List Craft) (w : World) (hv : CraftsAt w v l) (hn : l.length ≤ 1000000) :
    Calls Tryz.prog 97 #[v] w fun e w' => e = .returned (.int .i64 (fleetE l)) ∧ Below w.heap.size w w' := by
  have hmm := @run_makeMap Tryz.prog
  obtain ⟨a, c, rfl, hx⟩ := id hv.row
  clear hx
  have HV := Lib.hid hv
  clear hv
  go_enter Tryz.func97, Tryz.ntmps97
  go_wp2_with fail
  clear hmm
  go_loopw [11] (fun i wr => ∃ k : Nat, k ≤ l.length ∧ i = .int .i64 k ∧ wr.ownsMap Tryz.prog 9 (plainElem Tryz.prog 4) w.heap.size k (nmSet (H := Unit) l k) ∧ Below w.heap.size w wr ∧ Hid (flE l l.length 0 = flE l (l.length - k) k)) (fun i _ => l.length - (intOf i).toNat)
  case atStart => exact ⟨0, Nat.zero_le _, rfl, by rw [nmSet_zero]; exact World.ownsMap_made _ _ _ _, (by repeat (first | exact Below.refl _ _ | assumption | refine balloc ?_ _ | refine below_trans ?_ (by assumption) | refine Below.drew ?_ | refine below_drewN ?_ _ | refine Below.setCell ?_ (by simp <;> omega) _)), rfl⟩
  case round =>
    obtain ⟨k, hk, rfl, hown, hB, HI⟩ := hrel
    by_cases hlt : k < l.length
    · have hv2 := HV.out.below hB
      obtain ⟨a', c', hac, h0 | ⟨b, off, rfl, hb, hc⟩⟩ := hv2.row
      · omega
      · simp only [Value.slice.injEq] at hac
        obtain ⟨rfl, _, rfl⟩ := hac
        obtain ⟨s0, s1, s2, s3, s4, s5⟩ := craft_cells hc hlt
        have hsg := hv2.at_ k hlt
        have hs1 := hv2.nm k hlt
        have hs2 := hv2.sg k hlt
        have HS : Hid (flE l (l.length - k) k = if crErr (crAt l k) ≠ 0 then crErr (crAt l k) else flE l (l.length - (k + 1)) (k + 1)) := show _ = _ from by rw [show l.length - k = (l.length - (k + 1)) + 1 by omega]; rfl
        have HX : Hid (crErr (crAt l k) = crE (crAt l k).nm.data.toList (crAt l k).sp (crAt l k).cl (crAt l k).lo (crAt l k).hi (crAt l k).ss) := show _ = _ from rfl
        have HN := Lib.hid (nmSet_succ (H := Unit) l k hlt)
        have HK : Hid (keyOf Tryz.prog 9 (.string (crAt l k).nm) = some (nmKey (crAt l k))) := show _ = _ from keyOf_string_mk Tryz.underlying9 (by unfold maxLen; omega)
        generalize crAt l k = x at *
        obtain ⟨a2, c2, hxv, _⟩ := id hsg
        have HSG := Lib.hid hsg
        clear hc hv2 hsg
        obtain ⟨xnm, xsp, xcl, xlo, xhi, xv, xss⟩ := x
        simp only at *
        subst hxv
        go_wp2_with fail
        refine (craft_any _ _ _ _ _ _ _ _ (HSG.out.below (balloc (Below.refl _ _) _)) hs1 hs2).mono ?_
        rintro e w2 ⟨rfl, hb2⟩
        unfold ErrPair
        have hown2 := ownsMap_below hown (below_trans (balloc (Below.refl _ _) _) hb2)
        have hnm2 : w2.cell? ⟨wr.heap.size, 0, none⟩ = some (.string xnm) := below_cell hb2 (by simp)
        have hB2 : Below w.heap.size w w2 := (by repeat (first | exact Below.refl _ _ | assumption | refine balloc ?_ _ | refine below_trans ?_ (by assumption) | refine Below.drew ?_ | refine below_drewN ?_ _ | refine Below.setCell ?_ (by simp <;> omega) _))
        clear hown hb2 hB s0 s1 s2 s3 s4 s5
        generalize wr.heap.size = nb at *
        generalize hE : crErr ⟨xnm, xsp, xcl, xlo, xhi, .slice a2 xss.length c2, xss⟩ = E at *
        have HEE := Lib.hid HX.out
        clear hE
        rw [← HX.out]
        generalize crI xnm.data.toList xsp xcl xlo xhi xss = I at *
        clear HX
        by_cases hz : E = 0
        · have hz' : (E != 0) = false := by simpa using hz
          have HZ := Lib.hid hz
          clear hz
          go_wp2_with (at_mapUpdate; refine wpList_mapUpdate_own _ rfl _ _ _ 223 rfl 9 4 Tryz.key9 Tryz.underlying223 (plainElem (H := Unit) Tryz.prog 4) w.heap.size k _ rfl hown2 (by unfold maxLen; omega) _ _ _ rfl rfl HK.out _ [] (plainElem_bool Tryz.underlying4 true) ?_; intro w3 hown3 hgrow3)
          have hB3 : Below w.heap.size w w3 := hB2.grown hgrow3 hB2.size (fun j hj => by cases hj; exact Nat.le_refl _)
          clear hgrow3
          go_roundw
          case rel => exact ⟨k + 1, by omega, by go_num, HN.out.symm ▸ hown3, hB3, by unfold Hid; rw [HI.out, HS.out, HZ.out]; simp⟩
          case measure => simp [intOf]; omega
        · have hz' : (E != 0) = true := by simpa using hz
          have HZ := Lib.hid hz
          clear hz
          go_wp2_with fail
          go_ret
          refine ⟨ret_int ?_, (by repeat (first | exact Below.refl _ _ | assumption | refine balloc ?_ _ | refine below_trans ?_ (by assumption) | refine Below.drew ?_ | refine below_drewN ?_ _ | refine Below.setCell ?_ (by simp <;> omega) _))⟩
          have hq : flE l l.length 0 = E := by rw [HI.out, HS.out, if_pos HZ.out]
          unfold fleetE
          rw [hq, if_pos HZ.out]
    · obtain rfl : k = l.length := by omega
      have hq : flE l l.length 0 = 0 := by rw [HI.out, Nat.sub_self]; rfl
      have HQ := Lib.hid hq
      have hle := hown.size_le
      clear hq
      go_wp2_with (at_len; refine wpList_len_own _ rfl _ 223 rfl 9 4 Tryz.underlying223 _ w.heap.size l.length _ rfl hown ?_)
      all_goals (go_ret; refine ⟨ret_int ?_, hB⟩; unfold fleetE; rw [HQ.out])
      all_goals (first
        | (have hs : Maps.size (nmSet (H := Unit) l l.length) < l.length := by omega
           simp [hs]; done)
        | (have hs : ¬ Maps.size (nmSet (H := Unit) l l.length) < l.length := by omega
           simp [hs]; done))

end Go.Proofs.YtmglbegbijofkaaGreatDoor
