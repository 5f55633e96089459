import Derived.Test.YtmglbegbijofkaaGreatDoorQ04
import Derived.Test.YtmglbegbijofkaaGreatDoorQ03
import Derived.Maps.Own
import Derived.Maps.OwnOps
import Derived.Maps.OwnSet
import Derived.Maps.Views
import Derived.Test.YtmglbegbijofkaaGreatDoorQ05
set_option linter.unusedVariables false
set_option linter.unusedSimpArgs false
namespace Go.Proofs.YtmglbegbijofkaaGreatDoor
open Go.RowKit Go.Maps Go.WideMaps

/-- a craft as it lies in memory: its sights' slice, and what that holds -/
structure Craft where
  nm : ByteArray
  sp : Int
  cl : Int
  lo : Int
  hi : Int
  v : Value
  ss : List Sight
def Craft.zero : Craft := ⟨ByteArray.empty, 0, 0, 0, 0, .slice none 0 0, []⟩
def crAt (l : List Craft) (k : Nat) : Craft := l.getD k Craft.zero
def crF (l : List Craft) (i : Nat) : Value :=
  if i % 6 = 0 then .string (crAt l (i / 6)).nm else if i % 6 = 1 then .int .i64 (crAt l (i / 6)).sp else if i % 6 = 2 then .int .i64 (crAt l (i / 6)).cl else if i % 6 = 3 then .int .i64 (crAt l (i / 6)).lo else if i % 6 = 4 then .int .i64 (crAt l (i / 6)).hi else (crAt l (i / 6)).v
theorem crF_at (l : List Craft) (k j : Nat) (hj : j < 6) : crF l (k * 6 + j) = if j = 0 then .string (crAt l k).nm else if j = 1 then .int .i64 (crAt l k).sp else if j = 2 then .int .i64 (crAt l k).cl else if j = 3 then .int .i64 (crAt l k).lo else if j = 4 then .int .i64 (crAt l k).hi else (crAt l k).v := by
  unfold crF
  rw [show (k * 6 + j) % 6 = j by omega, show (k * 6 + j) / 6 = k by omega]
/-- a slice of crafts -/
structure CraftsAt (w : World) (v : Value) (l : List Craft) : Prop where
  row : RowAt w v l.length 6 (crF l)
  at_ : ∀ k, k < l.length → SightsAt w (crAt l k).v (crAt l k).ss
  nm : ∀ k, k < l.length → (crAt l k).nm.size ≤ 9223372036854775806
  sg : ∀ k, k < l.length → (crAt l k).ss.length ≤ 9223372036854775806
theorem CraftsAt.below {w w' : World} {v : Value} {l : List Craft} (h : CraftsAt w v l) (hb : Below w.heap.size w w') : CraftsAt w' v l :=
  ⟨h.row.below hb, fun k hk => (h.at_ k hk).below hb, h.nm, h.sg⟩
theorem craft_cells {w : World} {b off : Nat} {l : List Craft} {k : Nat} (hc : ∀ i, i < l.length * 6 → w.cell? ⟨b, off + i, none⟩ = some (crF l i)) (hk : k < l.length) :
    w.cell? ⟨b, off + k * 6, none⟩ = some (.string (crAt l k).nm) ∧ w.cell? ⟨b, off + k * 6 + 1, none⟩ = some (.int .i64 (crAt l k).sp) ∧ w.cell? ⟨b, off + k * 6 + 2, none⟩ = some (.int .i64 (crAt l k).cl) ∧ w.cell? ⟨b, off + k * 6 + 3, none⟩ = some (.int .i64 (crAt l k).lo) ∧ w.cell? ⟨b, off + k * 6 + 4, none⟩ = some (.int .i64 (crAt l k).hi) ∧ w.cell? ⟨b, off + k * 6 + 5, none⟩ = some (crAt l k).v := by
  have h := fun j (hj : j < 6) => (hc (k * 6 + j) (by omega)).trans (congrArg some (crF_at l k j hj))
  refine ⟨?_, ?_, ?_, ?_, ?_, ?_⟩
  · exact h 0 (by omega)
  · rw [Nat.add_assoc]; exact h 1 (by omega)
  · rw [Nat.add_assoc]; exact h 2 (by omega)
  · rw [Nat.add_assoc]; exact h 3 (by omega)
  · rw [Nat.add_assoc]; exact h 4 (by omega)
  · rw [Nat.add_assoc]; exact h 5 (by omega)
def crErr (c : Craft) : Int := crE c.nm.data.toList c.sp c.cl c.lo c.hi c.ss
/-- the error of the first craft that has one, among n from k on -/
def flE (l : List Craft) : Nat → Nat → Int
  | 0, _ => 0
  | n + 1, k => if crErr (crAt l k) ≠ 0 then crErr (crAt l k) else flE l n (k + 1)
def nmKey (c : Craft) : Lit := .string c.nm.data.toList
def nmSet {H : Type} (l : List Craft) (k : Nat) : DataW H := setOf (.lit (.bool true)) ((l.take k).map nmKey)
theorem nmSet_succ {H : Type} (l : List Craft) (k : Nat) (hk : k < l.length) : nmSet (H := H) l (k + 1) = (nmSet l k).put (nmKey (crAt l k)) (.lit (.bool true)) := by
  unfold nmSet
  rw [take_snoc_map nmKey l k hk, setOf_snoc]
  simp [crAt, hk]
theorem nmSet_zero {H : Type} (l : List Craft) : nmSet (H := H) l 0 = .map [] := by simp [nmSet, setOf]
def fleetE (l : List Craft) : Int := if flE l l.length 0 ≠ 0 then flE l l.length 0 else if Maps.size (nmSet (H := Unit) l l.length) < l.length then 5 else 0
theorem Tryz.key9 : Keyed Tryz.prog 9 := string_keyed Tryz.underlying9
theorem ownsMap_below {H : Type} {w w' : World} {P : Program} {k : TypeId} {R : Value → Option (DataW H × List MemPlace)} {b n : Nat} {D : DataW H} (h : w.ownsMap P k R b n D) (hb : Below w.heap.size w w') : w'.ownsMap P k R b n D := by
  have hlt := h.lt
  obtain ⟨es, clock, h1, h2⟩ := h
  exact ⟨es, clock, (hb.block b hlt).trans h1, h2⟩

set_option maxRecDepth 100000 in
set_option maxHeartbeats 2000000 in
theorem fleet_any (v : Value) (l : List Craft) (w : World) (hv : CraftsAt w v l) (hn : l.length ≤ 1000000) :
    Calls Tryz.prog 97 #[v] w fun e w' => e = .returned (.int .i64 (fleetE l)) ∧ Below w.heap.size w w' := by
  have hmm := @run_makeMap Tryz.prog
  obtain ⟨a, c, rfl, hx⟩ := id hv.row
  clear hx
  have HV := Lib.hid hv
  clear hv
  go_enter Tryz.func97, Tryz.ntmps97
  go_wp2_with fail
  clear hmm
  go_loopw [11] (fun i wr => ∃ k : Nat, k ≤ l.length ∧ i = .int .i64 k ∧ wr.ownsMap Tryz.prog 9 (plainElem Tryz.prog 4) w.heap.size k (nmSet (H := Unit) l k) ∧ Below w.heap.size w wr ∧ Hid (flE l l.length 0 = flE l (l.length - k) k)) (fun i _ => l.length - (intOf i).toNat)
  case atStart => exact ⟨0, Nat.zero_le _, rfl, by rw [nmSet_zero]; exact World.ownsMap_made _ _ _ _, (by repeat (first | exact Below.refl _ _ | assumption | refine balloc ?_ _ | refine below_trans ?_ (by assumption) | refine Below.drew ?_ | refine below_drewN ?_ _ | refine Below.setCell ?_ (by simp <;> omega) _)), rfl⟩
  case round =>
    obtain ⟨k, hk, rfl, hown, hB, HI⟩ := hrel
    by_cases hlt : k < l.length
    · have hv2 := HV.out.below hB
      obtain ⟨a', c', hac, h0 | ⟨b, off, rfl, hb, hc⟩⟩ := hv2.row
      · omega
      · simp only [Value.slice.injEq] at hac
        obtain ⟨rfl, _, rfl⟩ := hac
        obtain ⟨s0, s1, s2, s3, s4, s5⟩ := craft_cells hc hlt
        have hsg := hv2.at_ k hlt
        have hs1 := hv2.nm k hlt
        have hs2 := hv2.sg k hlt
        have HS : Hid (flE l (l.length - k) k = if crErr (crAt l k) ≠ 0 then crErr (crAt l k) else flE l (l.length - (k + 1)) (k + 1)) := show _ = _ from by rw [show l.length - k = (l.length - (k + 1)) + 1 by omega]; rfl
        have HX : Hid (crErr (crAt l k) = crE (crAt l k).nm.data.toList (crAt l k).sp (crAt l k).cl (crAt l k).lo (crAt l k).hi (crAt l k).ss) := show _ = _ from rfl
        have HN := Lib.hid (nmSet_succ (H := Unit) l k hlt)
        have HK : Hid (keyOf Tryz.prog 9 (.string (crAt l k).nm) = some (nmKey (crAt l k))) := show _ = _ from keyOf_string_mk Tryz.underlying9 (by unfold maxLen; omega)
        generalize crAt l k = x at *
        obtain ⟨a2, c2, hxv, _⟩ := id hsg
        have HSG := Lib.hid hsg
        clear hc hv2 hsg
        obtain ⟨xnm, xsp, xcl, xlo, xhi, xv, xss⟩ := x
        simp only at *
        subst hxv
        go_wp2_with fail
        refine (craft_any _ _ _ _ _ _ _ _ (HSG.out.below (balloc (Below.refl _ _) _)) hs1 hs2).mono ?_
        rintro e w2 ⟨rfl, hb2⟩
        unfold ErrPair
        have hown2 := ownsMap_below hown (below_trans (balloc (Below.refl _ _) _) hb2)
        have hnm2 : w2.cell? ⟨wr.heap.size, 0, none⟩ = some (.string xnm) := below_cell hb2 (by simp)
        have hB2 : Below w.heap.size w w2 := (by repeat (first | exact Below.refl _ _ | assumption | refine balloc ?_ _ | refine below_trans ?_ (by assumption) | refine Below.drew ?_ | refine below_drewN ?_ _ | refine Below.setCell ?_ (by simp <;> omega) _))
        clear hown hb2 hB s0 s1 s2 s3 s4 s5
        generalize wr.heap.size = nb at *
        generalize hE : crErr ⟨xnm, xsp, xcl, xlo, xhi, .slice a2 xss.length c2, xss⟩ = E at *
        have HEE := Lib.hid HX.out
        clear hE
        rw [← HX.out]
        generalize crI xnm.data.toList xsp xcl xlo xhi xss = I at *
        clear HX
        by_cases hz : E = 0
        · have hz' : (E != 0) = false := by simpa using hz
          have HZ := Lib.hid hz
          clear hz
          go_wp2_with (at_mapUpdate; refine wpList_mapUpdate_own _ rfl _ _ _ 223 rfl 9 4 Tryz.key9 Tryz.underlying223 (plainElem (H := Unit) Tryz.prog 4) w.heap.size k _ rfl hown2 (by unfold maxLen; omega) _ _ _ rfl rfl HK.out _ [] (plainElem_bool Tryz.underlying4 true) ?_; intro w3 hown3 hgrow3)
          have hB3 : Below w.heap.size w w3 := hB2.grown hgrow3 hB2.size (fun j hj => by cases hj; exact Nat.le_refl _)
          clear hgrow3
          go_roundw
          case rel => exact ⟨k + 1, by omega, by go_num, HN.out.symm ▸ hown3, hB3, by unfold Hid; rw [HI.out, HS.out, HZ.out]; simp⟩
          case measure => simp [intOf]; omega
        · have hz' : (E != 0) = true := by simpa using hz
          have HZ := Lib.hid hz
          clear hz
          go_wp2_with fail
          go_ret
          refine ⟨ret_int ?_, (by repeat (first | exact Below.refl _ _ | assumption | refine balloc ?_ _ | refine below_trans ?_ (by assumption) | refine Below.drew ?_ | refine below_drewN ?_ _ | refine Below.setCell ?_ (by simp <;> omega) _))⟩
          have hq : flE l l.length 0 = E := by rw [HI.out, HS.out, if_pos HZ.out]
          unfold fleetE
          rw [hq, if_pos HZ.out]
    · obtain rfl : k = l.length := by omega
      have hq : flE l l.length 0 = 0 := by rw [HI.out, Nat.sub_self]; rfl
      have HQ := Lib.hid hq
      have hle := hown.size_le
      clear hq
      go_wp2_with (at_len; refine wpList_len_own _ rfl _ 223 rfl 9 4 Tryz.underlying223 _ w.heap.size l.length _ rfl hown ?_)
      all_goals (go_ret; refine ⟨ret_int ?_, hB⟩; unfold fleetE; rw [HQ.out])
      all_goals (first
        | (have hs : Maps.size (nmSet (H := Unit) l l.length) < l.length := by omega
           simp [hs]; done)
        | (have hs : ¬ Maps.size (nmSet (H := Unit) l l.length) < l.length := by omega
           simp [hs]; done))

end Go.Proofs.YtmglbegbijofkaaGreatDoor
namespace Go.Proofs.YtmglbegbijofkaaGreatDoor
open Go.RowKit

theorem Tryz.info85 : (Tryz.prog.info? 85).map (fun i => (i.zero, i.size, i.bytes)) = some (some (.agg #[.int .i64 0, .int .i64 0, .int .i64 0]), 3, 24) := by kernel_rfl
/-- the cells of meets: craft, impact, tick -/
def mtc (l : List (Int × Int × Int)) : List Value := l.flatMap fun s => [.int .i64 s.1, .int .i64 s.2.1, .int .i64 s.2.2]
theorem mtc_snoc (l : List (Int × Int × Int)) (a b c : Int) : mtc (l ++ [(a, b, c)]) = mtc l ++ [.int .i64 a, .int .i64 b, .int .i64 c] := by simp [mtc]
def fO (c : Craft) (x : Impact) : Int → Int × Int × Int × Int × Int × Int := fun _ => (x.xl, x.xh, x.yl, x.yh, c.lo, c.hi)
def fT (c : Craft) (x : Impact) : Int := firstT c.sp c.cl c.lo c.hi c.ss (fO c x) (x.th + 1 - x.tl).toNat x.tl
def fE (c : Craft) (x : Impact) : Int := firstE c.sp c.cl c.lo c.hi c.ss (fO c x) (x.th + 1 - x.tl).toNat x.tl
def shAdd (i k : Nat) (t : Int) (acc : List (Int × Int × Int)) : List (Int × Int × Int) := if 0 ≤ t then acc ++ [((i : Int), (k : Int), t)] else acc
def shIn (c : Craft) (i : Nat) (l : List Impact) : Nat → Nat → List (Int × Int × Int) → Int × List (Int × Int × Int)
  | 0, _, acc => (0, acc)
  | n + 1, k, acc => if fE c (imAt l k) ≠ 0 then (fE c (imAt l k), []) else shIn c i l n (k + 1) (shAdd i k (fT c (imAt l k)) acc)
def shOut (cs : List Craft) (l : List Impact) : Nat → Nat → List (Int × Int × Int) → Int × List (Int × Int × Int)
  | 0, _, acc => (0, acc)
  | n + 1, i, acc => if (shIn (crAt cs i) i l l.length 0 acc).1 ≠ 0 then ((shIn (crAt cs i) i l l.length 0 acc).1, []) else shOut cs l n (i + 1) (shIn (crAt cs i) i l l.length 0 acc).2
def shipsR (l : List Impact) (cs : List Craft) : Int × List (Int × Int × Int) :=
  if 12 < l.length ∨ 12 < cs.length then (3, []) else if l.any strangeI then (7, []) else if fleetE cs ≠ 0 then (fleetE cs, []) else shOut cs l cs.length 0 []
theorem flE_zero (l : List Craft) : ∀ (n k : Nat), flE l n k = 0 → ∀ j, k ≤ j → j < k + n → crErr (crAt l j) = 0
  | 0, k, _, j, h1, h2 => by omega
  | n + 1, k, h, j, h1, h2 => by
    simp only [flE] at h
    split at h
    · contradiction
    · rename_i hb
      by_cases e : j = k
      · subst e; simpa using hb
      · exact flE_zero l n (k + 1) h j (by omega) (by omega)
theorem fleetE_zero {l : List Craft} (h : fleetE l = 0) : ∀ j, j < l.length → crErr (crAt l j) = 0 := by
  unfold fleetE at h
  split at h
  · contradiction
  · rename_i h1
    exact fun j hj => flE_zero l l.length 0 (by simpa using h1) j (by omega) (by omega)
theorem not_strange {l : List Impact} (h : l.any strangeI = false) : ∀ j, j < l.length → strangeI (imAt l j) = false := by
  intro j hj
  have := List.any_eq_false.1 h l[j] (List.getElem_mem hj)
  simpa [imAt, hj] using this

/-- what Ships leaves -/
def MeetsPost (w : World) (r : Int × List (Int × Int × Int)) (e : Ending) (w' : World) : Prop :=
  ∃ v, e = .returned (.tuple #[v, .int .i64 r.1]) ∧ w'.ownsRow w.heap.size 85 3 v r.2.length (mtc r.2) ∧ Below w.heap.size w w'

/-- sights that lie in a block below the row's -/
theorem sights_far {w w' : World} {o : Obj} {B : Nat} {row v : Value} {ss : List Sight} {n : Nat} {xs : List Value} {e : TypeId} {size : Nat} (h : SightsAt w v ss) (hg : (w.alloc o).grownBy w' row.ownBlock) (hr : w.ownsRow B e size row n xs) (hb : ∀ b off m c, v = .slice (some ⟨b, off, none⟩) m c → 0 < m → b < B) : SightsAt w' v ss := by
  obtain ⟨a, c, rfl, h | ⟨b, off, rfl, h1, h2⟩⟩ := h
  · exact ⟨a, c, rfl, .inl h⟩
  · by_cases h0 : ss.length = 0
    · exact ⟨_, c, rfl, .inl h0⟩
    · have hbB := hb b off _ c rfl (by omega)
      have hc := fun i (hi : i < ss.length * 5) => cell_far_row (a := ⟨b, off + i, none⟩) hg (alloc_cell (h2 i hi) o) (fun g hg' => by have := (World.ownsRow.lt hr g hg').1; show g ≠ b; omega)
      exact ⟨_, c, rfl, .inr ⟨b, off, rfl, World.block_lt_of_cell? _ _ (hc 0 (by omega)), hc⟩⟩
theorem sights_below {w : World} {v : Value} {ss : List Sight} (h : SightsAt w v ss) : ∀ b off m c, v = .slice (some ⟨b, off, none⟩) m c → 0 < m → b < w.heap.size := by
  obtain ⟨a, c, rfl, h | ⟨b, off, rfl, h1, h2⟩⟩ := h
  · intro b off m c' e hm
    injection e with e1 e2 e3
    omega
  · intro b' off' m c' e hm
    injection e with e1 e2 e3
    injection e1 with e1
    injection e1 with e1
    omega
theorem meets_of {w w' : World} {R r : Int × List (Int × Int × Int)} {e : Ending} (h : R = r) (p : MeetsPost w r e w') : MeetsPost w R e w' := h ▸ p

set_option maxRecDepth 100000 in
set_option maxHeartbeats 4000000 in
theorem ships_any (vl vc : Value) (l : List Impact) (cs : List Craft) (w : World) (hl : ImpactsAt w vl l) (hc : CraftsAt w vc cs) (hn : l.length ≤ 9223372036854775806) (hm : cs.length ≤ 9223372036854775806) :
    Calls Tryz.prog 34 #[vl, vc] w (MeetsPost w (shipsR l cs)) := by
  obtain ⟨al, cl, rfl, hx⟩ := id hl
  obtain ⟨ac, cc, rfl, hy⟩ := id hc.row
  clear hx hy
  have HL := Lib.hid hl
  have HC := Lib.hid hc
  clear hl hc
  have nilpost : ∀ (W : World), Below w.heap.size w W → W.ownsRow w.heap.size 85 3 (.slice none 0 0) 0 (mtc []) := fun W _ => by simpa [mtc] using World.ownsRow_nil W _ _ _
  have NP := Lib.hid nilpost
  clear nilpost
  obtain ⟨i0, hi, hz0, hz1, hz2⟩ := info_parts Tryz.info85
  have hmf : ∀ (fn : Fn) (first cap : Array Value) (w : World), (Instr.makeFunc fn first cap).run Tryz.prog w = .ok (.func fn first cap) w := fun _ _ _ _ => rfl
  by_cases hlong : 12 < l.length ∨ 12 < cs.length
  · have HR : Hid (shipsR l cs = (3, [])) := show _ = _ from by unfold shipsR; rw [if_pos hlong]
    have hnil := (NP.out w (Below.refl _ _))
    by_cases h1 : 12 < l.length
    · go_enter Tryz.func34, Tryz.ntmps34
      go_wp2_with fail
      go_ret2
      exact meets_of HR.out ⟨_, rfl, hnil, Below.refl _ _⟩
    · have h2 : 12 < cs.length := by omega
      have h3 : l.length ≤ 12 := by omega
      clear h1 hlong
      go_enter Tryz.func34, Tryz.ntmps34
      go_wp2_with fail
      go_ret2
      exact meets_of HR.out ⟨_, rfl, hnil, Below.refl _ _⟩
  · have hl12 : l.length ≤ 12 := by omega
    have hc12 : cs.length ≤ 12 := by omega
    have HLG := Lib.hid hlong
    clear hlong
    go_enter Tryz.func34, Tryz.ntmps34
    go_wp2_with fail
    refine (containsStrange_any _ _ _ HL.out (by omega)).mono ?_
    rintro e w1 ⟨rfl, hb1⟩
    cases hst : l.any strangeI with
    | true =>
      have HR : Hid (shipsR l cs = (7, [])) := show _ = _ from by unfold shipsR; rw [if_neg HLG.out, if_pos hst]
      have hnil := (NP.out w1 hb1)
      clear hst
      go_wp2_with fail
      go_ret2
      exact meets_of HR.out ⟨_, rfl, hnil, hb1⟩
    | false =>
      have HST := Lib.hid hst
      clear hst
      go_wp2_with fail
      refine (fleet_any _ _ _ (HC.out.below hb1) (by omega)).mono ?_
      rintro e w2 ⟨rfl, hb2⟩
      have hB2 := below_trans hb1 hb2
      by_cases hz : fleetE cs = 0
      · have hz' : (fleetE cs != 0) = false := by simpa using hz
        have HR : Hid (shipsR l cs = shOut cs l cs.length 0 []) := show _ = _ from by unfold shipsR; rw [if_neg HLG.out, if_neg (by simp [HST.out]), if_neg (by simp [hz])]
        have HOK := Lib.hid (fleetE_zero hz)
        clear hz
        go_wp2_with fail
        have HL2 := Lib.hid (HL.out.below hB2)
        have HC2 := Lib.hid (HC.out.below hB2)
        have hsz2 : w.heap.size ≤ w2.heap.size := hB2.size
        clear HL HC hb1 hb2
        go_loopw [4, 31] (fun v i wr => ∃ (n : Nat) (acc : List (Int × Int × Int)), n ≤ cs.length ∧ i = .int .i64 n ∧ acc.length ≤ n * 12 ∧ wr.ownsRow w2.heap.size 85 3 v acc.length (mtc acc) ∧ Below w2.heap.size w2 wr ∧ Hid (shOut cs l cs.length 0 [] = shOut cs l (cs.length - n) n acc)) (fun _ i _ => cs.length - (intOf i).toNat)
        case atStart => exact ⟨0, [], Nat.zero_le _, rfl, by simp, by simpa [mtc] using World.ownsRow_nil _ _ _ _, Below.refl _ _, rfl⟩
        case round =>
          obtain ⟨n, acc, hnn, rfl, hal, hown, hBw, HS⟩ := hrel
          obtain ⟨wo, rfl⟩ : ∃ wo : World, wo = wr := ⟨_, rfl⟩
          by_cases hlt : n < cs.length
          · have hv2 := HC2.out.below hBw
            obtain ⟨a', c', hac, h0 | ⟨b, off, rfl, hb, hc⟩⟩ := hv2.row
            · omega
            · simp only [Value.slice.injEq] at hac
              obtain ⟨rfl, _, rfl⟩ := hac
              obtain ⟨s0, s1, s2, s3, s4, s5⟩ := craft_cells hc hlt
              have hsg := hv2.at_ n hlt
              have hce := HOK.out n hlt
              have HSS : Hid (shOut cs l (cs.length - n) n acc = if (shIn (crAt cs n) n l l.length 0 acc).1 ≠ 0 then ((shIn (crAt cs n) n l l.length 0 acc).1, []) else shOut cs l (cs.length - (n + 1)) (n + 1) (shIn (crAt cs n) n l l.length 0 acc).2) := show _ = _ from by rw [show cs.length - n = (cs.length - (n + 1)) + 1 by omega]; rfl
              have HCK := Lib.hid (craft_ok hce)
              have HSB := Lib.hid (sights_below (HC2.out.at_ n hlt))
              have HSG := Lib.hid hsg
              clear hc hv2 hsg hce
              generalize crAt cs n = x at *
              obtain ⟨a2, c2, hxv, hq⟩ := id HSG.out
              clear hq
              obtain ⟨xnm, xsp, xcl, xlo, xhi, xv, xss⟩ := x
              simp only at *
              subst hxv
              go_wp2_with fail
              have kb : ∀ i, i < 6 → (wo.alloc (.cells #[.string xnm, .int .i64 xsp, .int .i64 xcl, .int .i64 xlo, .int .i64 xhi, .slice a2 xss.length c2] 63)).cell? ⟨wo.heap.size, i, none⟩ = some (#[Value.string xnm, .int .i64 xsp, .int .i64 xcl, .int .i64 xlo, .int .i64 xhi, .slice a2 xss.length c2].getD i undef) := by
                intro i hi
                have : i = 0 ∨ i = 1 ∨ i = 2 ∨ i = 3 ∨ i = 4 ∨ i = 5 := by omega
                rcases this with rfl | rfl | rfl | rfl | rfl | rfl <;> simp
              have hB3 : Below w2.heap.size w2 (wo.alloc (.cells #[.string xnm, .int .i64 xsp, .int .i64 xcl, .int .i64 xlo, .int .i64 xhi, .slice a2 xss.length c2] 63)) := balloc hBw _
              have hown3 : (wo.alloc (.cells #[.string xnm, .int .i64 xsp, .int .i64 xcl, .int .i64 xlo, .int .i64 xhi, .slice a2 xss.length c2] 63)).ownsRow w2.heap.size 85 3 u4 acc.length (mtc acc) := World.ownsRow.alloc hown _
              have hfar : ∀ g, u4.ownBlock = some g → g ≠ wo.heap.size := fun g hg => by have := (World.ownsRow.lt hown g hg).2; omega
              have HSG3 := Lib.hid (HSG.out.below (balloc (Below.refl _ _) (.cells #[.string xnm, .int .i64 xsp, .int .i64 xcl, .int .i64 xlo, .int .i64 xhi, .slice a2 xss.length c2] 63)))
              have hsz3 : wo.heap.size < (wo.alloc (.cells #[.string xnm, .int .i64 xsp, .int .i64 xcl, .int .i64 xlo, .int .i64 xhi, .slice a2 xss.length c2] 63)).heap.size := by simp
              have KB := Lib.hid kb
              clear kb s0 s1 s2 s3 s4 s5 HSG hown hBw
              generalize wo.alloc (.cells #[.string xnm, .int .i64 xsp, .int .i64 xcl, .int .i64 xlo, .int .i64 xhi, .slice a2 xss.length c2] 63) = W3 at *
              generalize wo.heap.size = cb at *
              go_loopw [4, 38] (fun v i wr => ∃ (k : Nat) (ac2 : List (Int × Int × Int)), k ≤ l.length ∧ i = .int .i64 k ∧ ac2.length ≤ n * 12 + k ∧ wr.ownsRow w2.heap.size 85 3 v ac2.length (mtc ac2) ∧ Below w2.heap.size w2 wr ∧ Hid (∀ i, i < 6 → wr.cell? ⟨cb, i, none⟩ = some (#[Value.string xnm, .int .i64 xsp, .int .i64 xcl, .int .i64 xlo, .int .i64 xhi, .slice a2 xss.length c2].getD i undef)) ∧ Hid (SightsAt wr (.slice a2 xss.length c2) xss) ∧ Hid (∀ g, v.ownBlock = some g → g ≠ cb) ∧ cb < wr.heap.size ∧ Hid (shIn ⟨xnm, xsp, xcl, xlo, xhi, .slice a2 xss.length c2, xss⟩ n l l.length 0 acc = shIn ⟨xnm, xsp, xcl, xlo, xhi, .slice a2 xss.length c2, xss⟩ n l (l.length - k) k ac2)) (fun _ i _ => l.length - (intOf i).toNat)
              case atStart => exact ⟨0, acc, Nat.zero_le _, rfl, by omega, hown3, hB3, KB, HSG3, hfar, hsz3, rfl⟩
              case round =>
                obtain ⟨k, ac2, hk, rfl, hl2, hown, hBw, KB2, HSG4, HF4, hcb, HI⟩ := hrel
                by_cases hlt2 : k < l.length
                · obtain ⟨a', c', hac, h0 | ⟨b3, off3, rfl, hb3, hc3⟩⟩ := HL2.out.below hBw
                  · omega
                  · simp only [Value.slice.injEq] at hac
                    obtain ⟨rfl, _, rfl⟩ := hac
                    obtain ⟨s0, s1, s2, s3, s4, s5, s6⟩ := impact_cells hc3 hlt2
                    have hst := strangeB_false.1 (not_strange HST.out k hlt2)
                    have HSS2 : Hid (shIn ⟨xnm, xsp, xcl, xlo, xhi, .slice a2 xss.length c2, xss⟩ n l (l.length - k) k ac2 = if fE ⟨xnm, xsp, xcl, xlo, xhi, .slice a2 xss.length c2, xss⟩ (imAt l k) ≠ 0 then (fE ⟨xnm, xsp, xcl, xlo, xhi, .slice a2 xss.length c2, xss⟩ (imAt l k), []) else shIn ⟨xnm, xsp, xcl, xlo, xhi, .slice a2 xss.length c2, xss⟩ n l (l.length - (k + 1)) (k + 1) (shAdd n k (fT ⟨xnm, xsp, xcl, xlo, xhi, .slice a2 xss.length c2, xss⟩ (imAt l k)) ac2)) := show _ = _ from by rw [show l.length - k = (l.length - (k + 1)) + 1 by omega]; rfl
                    generalize imAt l k = y at *
                    have g1 : 0 ≤ y.tl := by omega
                    have g2 : y.tl ≤ y.th := by omega
                    have g3 : y.th ≤ 100000 := by omega
                    clear hc3 hst
                    have b0 := KB2.out 0 (by omega)
                    have b1 := KB2.out 1 (by omega)
                    have b2 := KB2.out 2 (by omega)
                    have b3' := KB2.out 3 (by omega)
                    have b4 := KB2.out 4 (by omega)
                    have b5 := KB2.out 5 (by omega)
                    simp at b0 b1 b2 b3' b4 b5
                    go_wp2_with fail
                    have t1 : (wr.alloc (.cells #[.int .i64 y.p, .int .i64 y.xl, .int .i64 y.xh, .int .i64 y.yl, .int .i64 y.yh, .int .i64 y.tl, .int .i64 y.th] 27)).cell? ⟨wr.heap.size, 1, none⟩ = some (.int .i64 y.xl) := by simp
                    have t2 : (wr.alloc (.cells #[.int .i64 y.p, .int .i64 y.xl, .int .i64 y.xh, .int .i64 y.yl, .int .i64 y.yh, .int .i64 y.tl, .int .i64 y.th] 27)).cell? ⟨wr.heap.size, 2, none⟩ = some (.int .i64 y.xh) := by simp
                    have t3 : (wr.alloc (.cells #[.int .i64 y.p, .int .i64 y.xl, .int .i64 y.xh, .int .i64 y.yl, .int .i64 y.yh, .int .i64 y.tl, .int .i64 y.th] 27)).cell? ⟨wr.heap.size, 3, none⟩ = some (.int .i64 y.yl) := by simp
                    have t4 : (wr.alloc (.cells #[.int .i64 y.p, .int .i64 y.xl, .int .i64 y.xh, .int .i64 y.yl, .int .i64 y.yh, .int .i64 y.tl, .int .i64 y.th] 27)).cell? ⟨wr.heap.size, 4, none⟩ = some (.int .i64 y.yh) := by simp
                    have hroom := ships1_room wr.heap.size cb y.p y.xl y.xh y.yl y.yh y.tl y.th xsp xcl xlo xhi xnm (.slice a2 xss.length c2) y.tl y.th (wr.alloc (.cells #[.int .i64 y.p, .int .i64 y.xl, .int .i64 y.xh, .int .i64 y.yl, .int .i64 y.yh, .int .i64 y.tl, .int .i64 y.th] 27)) (by simp) (by simp; omega) t1 t2 t3 t4 (alloc_cell b3' _) (alloc_cell b4 _)
                    refine (first_any wr.heap.size cb (fO ⟨xnm, xsp, xcl, xlo, xhi, .slice a2 xss.length c2, xss⟩ y) xnm xsp xcl xlo xhi (.slice a2 xss.length c2) xss y.tl y.th (wr.alloc (.cells #[.int .i64 y.p, .int .i64 y.xl, .int .i64 y.xh, .int .i64 y.yl, .int .i64 y.yh, .int .i64 y.tl, .int .i64 y.th] 27)) (HSG4.out.below (balloc (Below.refl _ _) _)) HCK.out g1 g3 (by omega) hroom).mono ?_
                    rintro e w5 ⟨rfl, hb5⟩
                    unfold ErrPair
                    have HTe : Hid (fT ⟨xnm, xsp, xcl, xlo, xhi, .slice a2 xss.length c2, xss⟩ y = firstT xsp xcl xlo xhi xss (fO ⟨xnm, xsp, xcl, xlo, xhi, .slice a2 xss.length c2, xss⟩ y) (y.th + 1 - y.tl).toNat y.tl) := show _ = _ from rfl
                    have HEe : Hid (fE ⟨xnm, xsp, xcl, xlo, xhi, .slice a2 xss.length c2, xss⟩ y = firstE xsp xcl xlo xhi xss (fO ⟨xnm, xsp, xcl, xlo, xhi, .slice a2 xss.length c2, xss⟩ y) (y.th + 1 - y.tl).toNat y.tl) := show _ = _ from rfl
                    rw [HTe.out, HEe.out] at HSS2
                    generalize firstT xsp xcl xlo xhi xss (fO ⟨xnm, xsp, xcl, xlo, xhi, .slice a2 xss.length c2, xss⟩ y) (y.th + 1 - y.tl).toNat y.tl = T at *
                    generalize firstE xsp xcl xlo xhi xss (fO ⟨xnm, xsp, xcl, xlo, xhi, .slice a2 xss.length c2, xss⟩ y) (y.th + 1 - y.tl).toNat y.tl = E at *
                    have hbb : Below wr.heap.size wr w5 := below_trans (balloc (Below.refl _ _) _) hb5
                    have hown5 := ownsRow_below hown hbb
                    have hB5 := below_trans hBw hbb
                    have KB5 : Hid (∀ i, i < 6 → w5.cell? ⟨cb, i, none⟩ = some (#[Value.string xnm, .int .i64 xsp, .int .i64 xcl, .int .i64 xlo, .int .i64 xhi, .slice a2 xss.length c2].getD i undef)) := fun i hi => below_cell hbb (KB2.out i hi)
                    have HSG5 := Lib.hid (HSG4.out.below hbb)
                    have hcb5 : cb < w5.heap.size := Nat.lt_of_lt_of_le hcb hbb.size
                    clear hbb hb5 hown hBw KB2 HSG4 b0 b1 b2 b3' b4 b5 s0 s1 s2 s3 s4 s5 s6 t1 t2 t3 t4 hroom HTe HEe
                    by_cases hz : E = 0
                    · have hz' : (E != 0) = false := by simpa using hz
                      have HZ := Lib.hid hz
                      clear hz
                      by_cases hT : 0 ≤ T
                      · have HA : Hid (shAdd n k T ac2 = ac2 ++ [((n : Int), (k : Int), T)]) := show _ = _ from if_pos hT
                        go_wp2_with (at_builtin; refine wpList_append_lies _ (by rfl) _ _ _ (by rfl) w2.heap.size 85 i0 _ 3 24 Tryz.underlying79 hi hz0 hz1 hz2 rfl (by omega) u4 ac2.length _ (by rfl) (World.ownsRow.alloc hown5 _) ⟨w5.heap.size, 0, none⟩ 1 1 [.int .i64 n, .int .i64 k, .int .i64 T] (by rfl) (by rfl) (World.news_of_block (cs := #[.int .i64 n, .int .i64 k, .int .i64 T]) (t := 85) (fr := (0, 0)) (heap_alloc_new w5 _)) (by simp [Value.oneCell']) (by omega) (by unfold maxLen; omega) (by omega) (by have := hB5.size; simp; omega) (w5.heap.size + 1) (by simp) ?_)
                        intro g cap w6 hown6 hgrow hat hlt6
                        have hB6 := below_grown (balloc hB5 _) hgrow (fun g hg => (World.ownsRow.lt hown5 g hg).1)
                        have KB6 : Hid (∀ i, i < 6 → w6.cell? ⟨cb, i, none⟩ = some (#[Value.string xnm, .int .i64 xsp, .int .i64 xcl, .int .i64 xlo, .int .i64 xhi, .slice a2 xss.length c2].getD i undef)) := fun i hi => cell_far_row hgrow (alloc_cell (KB5.out i hi) _) (fun g hg => HF4.out g hg)
                        have HSG6 := Lib.hid (sights_far HSG5.out hgrow hown5 HSB.out)
                        have hcb6 : cb < w6.heap.size := World.block_lt_of_cell? _ _ (KB6.out 0 (by omega))
                        have HF6 : Hid (∀ g', (Value.slice (some ⟨g, 0, none⟩) (ac2.length + 1) cap).ownBlock = some g' → g' ≠ cb) := by
                          intro g' hg'
                          simp [Value.ownBlock] at hg'
                          subst hg'
                          rcases hat with h | h
                          · exact HF4.out _ h
                          · omega
                        clear hgrow hat KB5 HSG5 hown5 hB5 HF4
                        go_wp2_with fail
                        go_roundw
                        case rel => exact ⟨k + 1, ac2 ++ [((n : Int), (k : Int), T)], by omega, by go_num, by simp; omega, by rw [mtc_snoc]; simpa using hown6, hB6, KB6, HSG6, HF6, hcb6, by unfold Hid; rw [HI.out, HSS2.out, HZ.out, HA.out]; simp⟩
                        case measure => simp [intOf]; omega
                      · have HA : Hid (shAdd n k T ac2 = ac2) := show _ = _ from if_neg hT
                        go_wp2_with fail
                        go_roundw
                        case rel => exact ⟨k + 1, ac2, by omega, by go_num, by omega, hown5, hB5, KB5, HSG5, HF4, hcb5, by unfold Hid; rw [HI.out, HSS2.out, HZ.out, HA.out]; simp⟩
                        case measure => simp [intOf]; omega
                    · have hz' : (E != 0) = true := by simpa using hz
                      have HZ := Lib.hid hz
                      clear hz
                      have hnil := NP.out w5 (below_trans hB2 hB5)
                      go_wp2_with fail
                      go_ret2
                      refine meets_of HR.out (meets_of (r := (E, [])) ?_ ⟨_, rfl, hnil, below_trans hB2 hB5⟩)
                      rw [HS.out, HSS.out, HI.out, HSS2.out, if_pos HZ.out, if_pos HZ.out]
                · obtain rfl : k = l.length := by omega
                  have hfin : shIn ⟨xnm, xsp, xcl, xlo, xhi, .slice a2 xss.length c2, xss⟩ n l l.length 0 acc = (0, ac2) := by rw [HI.out, Nat.sub_self]; rfl
                  have HFIN := Lib.hid hfin
                  clear hfin
                  go_wp2_with fail
                  go_roundw
                  case rel => exact ⟨n + 1, ac2, by omega, by go_num, by omega, hown, hBw, by unfold Hid; rw [HS.out, HSS.out, HFIN.out]; simp⟩
                  case measure => simp [intOf]; omega
          · obtain rfl : n = cs.length := by omega
            go_wp2_with fail
            go_ret2
            refine meets_of HR.out ?_
            rw [HS.out, Nat.sub_self]
            exact ⟨_, rfl, ownsRow_base hown hsz2, below_trans hB2 hBw⟩
      · have hz' : (fleetE cs != 0) = true := by simpa using hz
        have HR : Hid (shipsR l cs = (fleetE cs, [])) := show _ = _ from by unfold shipsR; rw [if_neg HLG.out, if_neg (by simp [HST.out]), if_pos hz]
        have hnil := (NP.out w2 hB2)
        clear hz
        go_wp2_with fail
        go_ret2
        exact meets_of HR.out ⟨_, rfl, hnil, hB2⟩

end Go.Proofs.YtmglbegbijofkaaGreatDoor
namespace Go.Proofs.YtmglbegbijofkaaGreatDoor
open Go.RowKit

end Go.Proofs.YtmglbegbijofkaaGreatDoor
