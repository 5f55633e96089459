/- Walks: the officer's words, names, numbers, verbs. -/
import Derived.Test.YtkjajpfgdjfcoaaGreatDoorProg
import Derived.Test.YtkjajpfgdjfcoaaGreatDoorPA
import Derived.WalkKit
import Derived.WalkSpells
import Derived.WalkLawsBesides
import Derived.Deep.QuietTactic
import Derived.BigQuiet
import Derived.Outline
import Derived.Lib.Hide
import Derived.WalkSmall
import Derived.Lib.ConvBytes
import Derived.Test.YtkjajpfgdjfcoaaGreatDoorPS
import Derived.Shelf.RegionOpen
import Derived.IntWalk
import Derived.Shelf.SlIter.Collect
import Derived.RangeFuncNested
import Derived.RangeFuncBound
import Derived.RangeFuncCalls
import Derived.RangeFuncLeaves
import Derived.Shelf.Abstract
import Derived.OwnWalkIn
import Derived.TacticsInMore
import Derived.LoopNIn
import Derived.LoopIn
import Derived.Maps.AppendAt
import Derived.Shelf.Strings.SlTrimAscii
import Derived.Lib.LaidTab
import Derived.Lib.AppendIntMem
import Derived.Deep.AppendLies
import Derived.OwnWalk
import Derived.Deep.DeepCutAuto
import Derived.Deep.CutBlock
import Derived.Deep.RegionHeld3
set_option linter.unusedVariables false
set_option linter.unusedSimpArgs false
namespace Go.Proofs.YtkjajpfgdjfcoaaGreatDoor
open Go.RowKit

theorem ret_int {k : IntKind} {a b : Int} (h : a = b) : Ending.returned (.int k a) = .returned (.int k b) := by rw [h]
theorem ret_tup3 {a b c a' b' c' : Value} (h1 : a = a') (h2 : b = b') (h3 : c = c') : Ending.returned (.tuple #[a, b, c]) = .returned (.tuple #[a', b', c']) := by rw [h1, h2, h3]
theorem ret_tup2 {a b a' b' : Value} (h1 : a = a') (h2 : b = b') : Ending.returned (.tuple #[a, b]) = .returned (.tuple #[a', b']) := by rw [h1, h2]
theorem vint {k : IntKind} {a b : Int} (h : a = b) : Value.int k a = .int k b := by rw [h]
theorem vbool {a b : Bool} (h : a = b) : Value.bool a = .bool b := by rw [h]
theorem ret_bool {a b : Bool} (h : a = b) : Ending.returned (.bool a) = .returned (.bool b) := by rw [h]
theorem bcell {W w1 : World} (hb : Below W.heap.size W w1) : (∀ b o, b < W.heap.size → w1.cell? ⟨b, o, none⟩ = W.cell? ⟨b, o, none⟩) ∧ (∀ b o, b < W.heap.size → w1.frozen? ⟨b, o, none⟩ = W.frozen? ⟨b, o, none⟩) :=
  ⟨fun b o h => hb.cell (p := ⟨b, o, none⟩) h, fun b o h => hb.frozen (p := ⟨b, o, none⟩) h⟩
theorem bsize {W w1 : World} (hb : Below W.heap.size W w1) : W.heap.size ≤ w1.heap.size := hb.size
theorem balloc {w w1 : World} (h : Below w.heap.size w w1) (o : Obj) : Below w.heap.size w (w1.alloc o) := h.alloc h.size o
theorem below_drewN' {w w1 : World} (h : Below w.heap.size w w1) (n : Nat) : Below w.heap.size w (w1.drewN n) := below_drewN h n
theorem below_trans {w w1 w2 : World} (h : Below w.heap.size w w1) (k : Below w1.heap.size w1 w2) : Below w.heap.size w w2 :=
  h.trans (k.mono h.size)
theorem qsame {P : Program} {f : FuncId} {args : Array Value} {w : World} {n : Nat} {v : Value}
    (h : Calls P f args (w.drewN n) fun e w' => e = .returned v ∧ w.drewN n = w') : Calls P f args (w.drewN n) fun e w'' => e = .returned v ∧ ∃ m, w'' = w.drewN m :=
  h.mono fun _ _ ⟨he, hm⟩ => ⟨he, n, hm.symm⟩

set_option maxHeartbeats 400000 in
theorem out_any (n lo hi : Int) (w : World) :
    Calls Tryz.prog 32 #[.int .i64 n, .int .i64 lo, .int .i64 hi] w fun e w' => e = .returned (.bool (outI n lo hi)) ∧ w = w' := by
  go_enter Tryz.func32, Tryz.ntmps32
  go_wp2
  all_goals (go_ret; exact ⟨ret_bool (by simp [outI, *] <;> omega), rfl⟩)

set_option maxHeartbeats 400000 in
theorem wout_any (n lo hi : Int) (w : World) :
    Calls Tryz.prog 60 #[.int .i64 n, .int .i64 lo, .int .i64 hi] w fun e w' => e = .returned (.bool (outI n lo hi)) ∧ w = w' := by
  go_enter Tryz.func60, Tryz.ntmps60
  go_wp2
  all_goals (go_ret; exact ⟨ret_bool (by simp [outI, *] <;> omega), rfl⟩)

set_option maxHeartbeats 400000 in
theorem rin_any (n lo hi : Int) (w : World) :
    Calls Tryz.prog 41 #[.int .i64 n, .int .i64 lo, .int .i64 hi] w fun e w' => e = .returned (.bool (!outI n lo hi)) ∧ w = w' := by
  go_enter Tryz.func41, Tryz.ntmps41
  go_wp2
  all_goals (go_ret; exact ⟨ret_bool (by rw [Bool.eq_iff_iff]; simp [outI, *]; try omega), rfl⟩)

theorem bytesWorld_below (w : World) (e : TypeId) (s : ByteArray) : Below w.heap.size w (Lib.bytesWorld w e s) :=
  ⟨rfl, rfl, rfl, by rw [Lib.bytesWorld_size]; omega, fun k hk => Lib.bytesWorld_at_old w e s k hk⟩
theorem badFrom_drop (l : List UInt8) (k : Nat) (h : k < l.length) : badFrom (l.drop k) k = (chBad k (l.getD k 0) || badFrom (l.drop (k + 1)) (k + 1)) := by
  rw [List.drop_eq_getElem_cons h]
  simp [badFrom, List.getD_eq_getElem?_getD, List.getElem?_eq_getElem h]
theorem badFrom_end (l : List UInt8) : badFrom (l.drop l.length) l.length = false := by simp [badFrom]
/-- the same test on the letter's number -/
def chBadN (k : Nat) (x : Int) : Bool := !(decide (97 ≤ x) && decide (x ≤ 122)) && (k == 0 || x != 45 && !(decide (48 ≤ x) && decide (x ≤ 57)))
theorem chBad_n (k : Nat) (c : UInt8) : chBad k c = chBadN k (c.toNat : Int) := by
  unfold chBad chBadN
  have e1 : decide (97 ≤ c.toNat) = decide ((97 : Int) ≤ (c.toNat : Int)) := by congr 1; simp; omega
  have e2 : decide (c.toNat ≤ 122) = decide ((c.toNat : Int) ≤ 122) := by congr 1; simp; omega
  have e3 : decide (48 ≤ c.toNat) = decide ((48 : Int) ≤ (c.toNat : Int)) := by congr 1; simp; omega
  have e4 : decide (c.toNat ≤ 57) = decide ((c.toNat : Int) ≤ 57) := by congr 1; simp; omega
  have e5 : (c.toNat != 45) = ((c.toNat : Int) != 45) := by
    rw [Bool.eq_iff_iff]; simp; omega
  rw [e1, e2, e3, e4, e5]

set_option maxRecDepth 100000 in
set_option maxHeartbeats 800000 in
theorem name_any (s : ByteArray) (w : World) (hs : s.size ≤ 9223372036854775806) :
    Calls Tryz.prog 31 #[.string s] w fun e w' => e = .returned (.bool (nameB s.data.toList)) ∧ Below w.heap.size w w' := by
  have hconv := Lib.run_convert_string_bytes (P := Tryz.prog) w 9 184 5 s Tryz.underlying9 Tryz.underlying184 Tryz.underlying5
  have hB := bytesWorld_below w 5 s
  have hC := Lib.bytesWorld_cell w 5 s
  generalize Lib.bytesWorld w 5 s = w1 at hconv hB hC
  have HC := Lib.hid hC
  clear hC
  go_enter Tryz.func31, Tryz.ntmps31
  go_wp2_with fail
  clear hconv
  go_loop [8] (fun i => ∃ k : Nat, k ≤ s.size ∧ i = .int .i64 k ∧ Hid (badFrom s.data.toList 0 = badFrom (s.data.toList.drop k) k)) (fun i => s.size - (intOf i).toNat)
  case atStart => exact ⟨0, Nat.zero_le _, rfl, rfl⟩
  case round =>
    obtain ⟨k, hk, rfl, HI⟩ := hrel
    by_cases hlt : k < s.size
    · have hck := HC.out k hlt
      have HS := Lib.hid (badFrom_drop s.data.toList k (by simpa using hlt))
      rw [chBad_n] at HS
      have hx0 : (0 : Int) ≤ (s.data.toList.getD k 0).toNat := by omega
      have hx1 : ((s.data.toList.getD k 0).toNat : Int) < 256 := by have := (s.data.toList.getD k 0).toNat_lt; omega
      generalize ((s.data.toList.getD k 0).toNat : Int) = x at *
      have hx : x < 45 ∨ (45 ≤ x ∧ x ≤ 45) ∨ (46 ≤ x ∧ x ≤ 47) ∨ (48 ≤ x ∧ x ≤ 57) ∨ (58 ≤ x ∧ x ≤ 96) ∨ (97 ≤ x ∧ x ≤ 122) ∨ 123 ≤ x := by omega
      have hkk : k ≤ 0 ∨ 1 ≤ k := by omega
      rcases hx with h | ⟨h, h'⟩ | ⟨h, h'⟩ | ⟨h, h'⟩ | ⟨h, h'⟩ | ⟨h, h'⟩ | h <;> rcases hkk with hk0 | hk0
      all_goals (try have q1 : ((k : Int) == 0) = false := beq_eq_false_iff_ne.2 (by omega))
      all_goals (try have q2 : (x != 45) = true := bne_iff_ne.2 (by omega))
      all_goals (try have q3 : decide (x ≤ 57) = false := decide_eq_false (by omega))
      all_goals (try have q4 : decide (x ≤ 122) = false := decide_eq_false (by omega))
      all_goals (go_wp2_with fail)
      all_goals (first
        | (go_ret; refine ⟨ret_bool ?_, hB⟩
           have hcb : chBadN k x = true := by (unfold chBadN; simp; omega)
           unfold nameB; rw [HI.out, HS.out, hcb]; simp; done)
        | (go_round
           case rel =>
             have hcb : chBadN k x = false := by (unfold chBadN; simp; omega)
             exact ⟨k + 1, by omega, by go_num, by unfold Hid; rw [HI.out, HS.out, hcb]; simp⟩
           case measure => (simp [intOf]; omega)))
    · obtain rfl : k = s.size := by omega
      go_wp2_with (go_at_call 60; refine (wout_any _ _ _ _).mono ?_; rintro e w' ⟨rfl, rfl⟩)
      go_ret
      refine ⟨ret_bool ?_, hB⟩
      have e : s.data.toList.length = s.size := by simp
      unfold nameB outI
      rw [HI.out, ← e, badFrom_end]
      simp only [Bool.not_false, Bool.true_and]
      rw [Bool.eq_iff_iff]
      simp
      omega
end Go.Proofs.YtkjajpfgdjfcoaaGreatDoor
namespace Go.Proofs.YtkjajpfgdjfcoaaGreatDoor
open Go.RowKit
set_option maxRecDepth 100000 in
set_option maxHeartbeats 800000 in
/-- internal/stringslite.Cut, where Index answers as it should -/
theorem scut_of (s sep : ByteArray) (w : World) (hs : s.size < 4294967296000000) (hsep : sep.size < 4294967296)
    (hone : ∀ W, Calls Tryz.prog 203 #[.string s, .string sep] W fun e w' => e = .returned (.int .i64 (Lib.index s.data.toList sep.data.toList)) ∧ w' = W) :
    Calls Tryz.prog 110 #[.string s, .string sep] w fun e w' => e = .returned (.tuple #[.string ⟨(Lib.cut s.data.toList sep.data.toList).1.toArray⟩, .string ⟨(Lib.cut s.data.toList sep.data.toList).2.1.toArray⟩, .bool (Lib.cut s.data.toList sep.data.toList).2.2]) ∧ ∃ n, w' = w.drewN n := by
  have HO := Lib.hid hone
  clear hone
  rcases Lib.indexB_cases s sep with hix | ⟨i, hix, hroom⟩
  · obtain ⟨e1, e2, e3⟩ := Lib.cutB_miss s sep hix
    rw [e1, e2, e3]
    clear e1 e2 e3
    have HX : Hid (Lib.index s.data.toList sep.data.toList = -1) := show _ = _ from hix
    clear hix
    go_enter Tryz.func110, Tryz.ntmps110
    go_wp2_with (go_at_call 203; refine (HO.out _).mono ?_; rintro e w' ⟨rfl, rfl⟩; rw [HX.out])
    go_ret3
    exact ⟨rfl, 0, rfl⟩
  · obtain ⟨e1, e2, e3⟩ := Lib.cutB_hit s sep i hix
    rw [e1, e2, e3]
    clear e1 e2 e3
    have HX : Hid (Lib.index s.data.toList sep.data.toList = i) := show _ = _ from hix
    clear hix
    have c1 : (0 : Int) ≤ ↑i := by omega
    have c2 : (↑i : Int) ≤ ↑s.size := by omega
    have c3 : (0 : Int) ≤ ↑i + ↑sep.size := by omega
    have c4 : (↑i + ↑sep.size : Int) ≤ ↑s.size := by omega
    have mixed : Tryz.prog.follows Departure.mixedOrders = true := by kernel_rfl
    have c5 := IntWalk.i64_in (↑i + ↑sep.size) ⟨by omega, by omega⟩
    go_enter Tryz.func110, Tryz.ntmps110
    go_wp2_with (go_at_call 203; refine (HO.out _).mono ?_; rintro e w' ⟨rfl, rfl⟩; rw [HX.out])
    go_region_o
    go_wp2
    go_ret3
    exact ⟨rfl, 1, rfl⟩
/-- internal/stringslite.Cut at one space, at every string -/
theorem scut1 (s : ByteArray) (w : World) (hs : s.size < 4294967296000000) :
    Calls Tryz.prog 110 #[.string s, .string ⟨#[32]⟩] w fun e w' => e = .returned (.tuple #[.string ⟨(Lib.cut s.data.toList [32]).1.toArray⟩, .string ⟨(Lib.cut s.data.toList [32]).2.1.toArray⟩, .bool (Lib.cut s.data.toList [32]).2.2]) ∧ ∃ n, w' = w.drewN n :=
  scut_of s ⟨#[32]⟩ w hs (by decide) (fun W => by rw [show Lib.index s.data.toList (⟨#[32]⟩ : ByteArray).data.toList = Lib.indexByte s.data.toList 32 from Lib.index_one _ _]; exact Tryz.stringslite_Index_one s 32 W)
theorem cut1 (r : List UInt8) (w : World) (hs : r.length < 4294967296000000) :
    Calls Tryz.prog 56 #[.string ⟨r.toArray⟩, .string ⟨#[32]⟩] w fun e w' => e = .returned (.tuple #[.string ⟨(Lib.cut r [32]).1.toArray⟩, .string ⟨(Lib.cut r [32]).2.1.toArray⟩, .bool (Lib.cut r [32]).2.2]) ∧ ∃ n, w' = w.drewN n := by
  have hc : ∀ W, Calls Tryz.prog 110 #[.string ⟨r.toArray⟩, .string ⟨#[32]⟩] W fun e w' => e = .returned (.tuple #[.string ⟨(Lib.cut r [32]).1.toArray⟩, .string ⟨(Lib.cut r [32]).2.1.toArray⟩, .bool (Lib.cut r [32]).2.2]) ∧ ∃ n, w' = W.drewN n := fun W => scut1 ⟨r.toArray⟩ W hs
  have HC := Lib.hid hc
  clear hc
  generalize Lib.cut r [32] = q at *
  obtain ⟨qa, qb, qm⟩ := q
  go_enter Tryz.func56, Tryz.ntmps56
  go_wp2_with (go_at_call 110; refine (HC.out _).mono ?_; rintro e w' ⟨rfl, n, rfl⟩)
  go_ret3
  exact ⟨rfl, n, rfl⟩
end Go.Proofs.YtkjajpfgdjfcoaaGreatDoor
namespace Go.Proofs.YtkjajpfgdjfcoaaGreatDoor
open Go.RowKit Go.Maps Go.Sort Go.Shelf

theorem Tryz.info9 : (Tryz.prog.info? 9).map (fun i => (i.zero, i.size, i.bytes)) = some (some (.string ⟨#[]⟩), 1, 16) := by kernel_rfl
def apAssign : Code := (Code.region 2 #[{ dst := some 5, op := Op.assign (Operand.tmp 7), type := 9, pos := "iter.go:51", after := #[], guard := none }] false)
def apBody : Code := (Code.block 1 (Code.region 3 #[{ dst := some 8, op := Op.load 22 (Operand.tmp 2), type := 22, pos := "iter.go:52", after := #[], guard := none }, { dst := some 9, op := Op.move (Operand.tmp 5), type := 9, pos := "iter.go:52", after := #[], guard := none }, { dst := some 10, op := Op.buildSlice 22 1 #[(0, Operand.tmp 9)], type := 22, pos := "iter.go:52", after := #[{ on := 1, ground := Ground.data }], guard := none }, { dst := some 11, op := Op.call { callee := Callee.builtin Builtin.append, args := #[Operand.tmp 8, Operand.tmp 10], argTypes := #[22, 22] }, type := 22, pos := "iter.go:52", after := #[{ on := 0, ground := Ground.data }, { on := 2, ground := Ground.data }], guard := none }, { dst := none, op := Op.store 22 (Operand.tmp 2) (Operand.tmp 11), type := 0, pos := "iter.go:52", after := #[{ on := 3, ground := Ground.data }, { on := 3, ground := Ground.chain }, { on := 0, ground := Ground.phase }, { on := 1, ground := Ground.phase }, { on := 2, ground := Ground.phase }, { on := 3, ground := Ground.phase }], guard := none }] false))
def apRec (fn : FuncId) (sv : Value) (Bs D : Nat) (st : LoopState) (pend : Option Code) : Loop :=
  { state := st, pending := pend, fn, tmps := #[.slice none 0 0, sv, .pointer (some ⟨Bs, 0, none⟩), undef, .slice none 0 0, undef, sv, undef, undef, undef, undef, undef, undef], params := #[7], assign := apAssign, body := apBody, defers := D }
/-- between two rounds: the caller's box has what has come; the iterator's own box (block Ns) has what is left -/
structure ApAt (w0 : World) (Ns : Nat) (fn : FuncId) (sv : Value) (Bs l D : Nat) (ss : List (List UInt8)) (r : List UInt8) (W : World) : Prop where
  box : ∃ v, W.heap[Bs]? = some (.cells #[v] 22 (0, 0)) ∧ W.ownsRow (Ns + 1) 9 1 v ss.length (ss.map encStr)
  L : W.heap[l]? = some (.loop (apRec fn sv Bs D .ready none))
  K : W.heap[D]? = some (.deferred (some []))
  S : W.heap[Ns]? = some (.cells #[.string ⟨r.toArray⟩] 9 (0, 0))
  below : Below Ns w0 W
theorem ApAt.drewN {w0 : World} {Ns : Nat} {fn : FuncId} {sv : Value} {Bs l D : Nat} {ss : List (List UInt8)} {r : List UInt8} {W : World} (h : ApAt w0 Ns fn sv Bs l D ss r W) (q : Nat) : ApAt w0 Ns fn sv Bs l D ss r (W.drewN q) :=
  ⟨h.box, h.L, h.K, h.S, ⟨h.below.os, h.below.tape, h.below.output, h.below.size, h.below.block⟩⟩

set_option maxRecDepth 100000 in
set_option maxHeartbeats 2000000 in
theorem apYield (m : Nat) (w0 : World) (Ns : Nat) (fn : FuncId) (sv : Value) (Bs l D : Nat) (hBl : Bs ≠ l) (hDl : D ≠ l) (hDB : D ≠ Bs) (h0B : Ns < Bs) (h0l : Ns < l) (h0D : Ns < D)
    (N : Nat) (hN : N ≤ maxLen) (hNb : N * 16 ≤ 140737488355328) (ss : List (List UInt8)) (r x : List UInt8) (W : World) (h : ApAt w0 Ns fn sv Bs l D ss r W) (hlen : ss.length < N) :
    YieldAt Fence.wide m Tryz.prog l #[encStr x] W fun e W' => e = .returned (.bool true) ∧ ApAt w0 Ns fn sv Bs l D (ss ++ [x]) r W' := by
  obtain ⟨i0, hi, hz0, hz1, hz2⟩ := info_parts Tryz.info9
  obtain ⟨v, hv, hrow⟩ := h.box
  refine ⟨fn, #[.slice none 0 0, sv, .pointer (some ⟨Bs, 0, none⟩), undef, .slice none 0 0, undef, sv, encStr x, undef, undef, undef, undef, undef], apAssign, apBody, by simpa [apRec] using run_yield (P := Tryz.prog) (args := #[encStr x]) h.L rfl, roundIn_of_wpIn trivial ?_⟩
  have hl : l < W.heap.size := (Array.getElem?_eq_some_iff.1 h.L).1
  have hbr := run_beginRound (P := Tryz.prog) h.L rfl
  obtain ⟨W2, hW2⟩ : ∃ W2, W.putObj l (.loop { apRec fn sv Bs D .ready none with state := .busy }) = W2 := ⟨_, rfl⟩
  rw [hW2] at hbr
  have hg2 : W.grownBy W2 (some l) := by rw [← hW2]; exact grownBy_putObj_a _ _ _
  have hv2 : W2.heap[Bs]? = some (.cells #[v] 22 (0, 0)) := by rw [← hW2]; exact (World.putObj_heap_other hBl).trans hv
  have hK2 : W2.heap[D]? = some (.deferred (some [])) := by rw [← hW2]; exact (World.putObj_heap_other hDl).trans h.K
  have hS2 : W2.heap[Ns]? = some (.cells #[.string ⟨r.toArray⟩] 9 (0, 0)) := by rw [← hW2]; exact (World.putObj_heap_other (by omega)).trans h.S
  have hL2 : W2.heap[l]? = some (.loop { apRec fn sv Bs D .ready none with state := .busy }) := by rw [← hW2]; exact World.putObj_heap_same hl
  have hrow2 : W2.ownsRow (Ns + 1) 9 1 v ss.length (ss.map encStr) := hrow.kept hg2 (ownsRow_ne_a hrow h.L (fun cur e => by cases e))
  have hsz2 : W.heap.size ≤ W2.heap.size := hg2.size
  have hb2 : Below Ns w0 W2 := h.below.grown hg2 (by omega) (fun k e => by cases e; omega)
  obtain ⟨hc2, hf2⟩ := cell_of_box_a hv2
  have hBlt : Bs < W2.heap.size := (Array.getElem?_eq_some_iff.1 hv2).1
  have hl2 : l < W2.heap.size := (Array.getElem?_eq_some_iff.1 hL2).1
  have hDlt : D < W2.heap.size := (Array.getElem?_eq_some_iff.1 hK2).1
  have ne_of : ∀ {j : Nat} {o : Obj}, W2.heap[j]? = some o → (∀ cur, o ≠ .cells cur 9 (0, 0)) → some j ≠ v.ownBlock := fun hj hno => by
    rcases ownsRow_ne_a hrow2 hj hno with e | e
    · rw [e]; simp
    · exact fun e' => e e'.symm
  have neS : some Ns ≠ v.ownBlock := fun e => by have := (hrow2.lt Ns e.symm).1; omega
  clear hW2
  unfold apAssign
  gi_wp2_with gi_round_op_a
  unfold apBody
  gi_wp2_with (first
    | (gi_at_builtin; refine wpListIn_append_own _ rfl _ _ 22 rfl (Ns + 1) 9 i0 (.string ⟨#[]⟩) 1 16 Tryz.underlying22 hi hz0 hz1 hz2 rfl (by decide) _ _ _ rfl (hrow2.alloc _) ⟨W2.heap.size, 0, none⟩ 1 1 [encStr x] rfl rfl (cell_one_new _ _ _) (by simp [Value.oneCell', encStr]) (by omega) (by omega) (by simp; omega) ?_; intro v' w3 hown' hg3 hnil3
       have hv3 : w3.heap[Bs]? = some (.cells #[v] 22 (0, 0)) := (hg3.block Bs (by simp; omega) (ne_of hv2 (fun cur e => by cases e))).trans ((Below.heap_alloc _ _ Bs hBlt).trans hv2)
       obtain ⟨hc3, hf3⟩ := cell_of_box_a hv3
       obtain ⟨g', cap', cur', rfl, hbase', hgb', hr1, hr2, hr3, hr4⟩ : ∃ g' cap' cur', v' = .slice (some ⟨g', 0, none⟩) (ss.length + 1) cap' ∧ Ns + 1 ≤ g' ∧ w3.heap[g']? = some (.cells cur' 9 (0, 0)) ∧ ss.length + 1 ≤ cap' ∧ cap' ≤ maxLen ∧ cur'.size = cap' * 1 ∧ cur'.toList.take ((ss.length + 1) * 1) = ss.map encStr ++ [encStr x] := by
         rcases hown'.2 with ⟨_, h0⟩ | h'
         · exact absurd h0 (by omega)
         · exact h'
       go_frame)
    | gi_round_op_a)
  have hg3' : (W2.alloc (.cells #[encStr x] 9)).grownBy w3 v.ownBlock := hg3
  have hL3 : w3.heap[l]? = some (.loop { apRec fn sv Bs D .ready none with state := .busy }) := (hg3'.block l (by simp; omega) (ne_of hL2 (fun cur e => by cases e))).trans ((Below.heap_alloc _ _ l hl2).trans hL2)
  have hK3 : w3.heap[D]? = some (.deferred (some [])) := (hg3'.block D (by simp; omega) (ne_of hK2 (fun cur e => by cases e))).trans ((Below.heap_alloc _ _ D hDlt).trans hK2)
  have hS3 : w3.heap[Ns]? = some (.cells #[.string ⟨r.toArray⟩] 9 (0, 0)) := (hg3'.block Ns (by simp; omega) neS).trans ((Below.heap_alloc _ _ Ns (by omega)).trans hS2)
  obtain ⟨w4, hw4⟩ : ∃ w4, w3.setCell ⟨Bs, 0, none⟩ (.slice (some ⟨g', 0, none⟩) (ss.length + 1) cap') = w4 := ⟨_, rfl⟩
  rw [hw4]
  have hg4 : w3.grownBy w4 (some Bs) := by rw [← hw4]; exact grownBy_setCell0_a _ _ _
  have hv4 : w4.heap[Bs]? = some (.cells #[.slice (some ⟨g', 0, none⟩) (ss.length + 1) cap'] 22 (0, 0)) := by rw [← hw4]; exact heap_setCell_box_a _ hv3
  have hL4 : w4.heap[l]? = some (.loop { apRec fn sv Bs D .ready none with state := .busy }) := (hg4.block l (Array.getElem?_eq_some_iff.1 hL3).1 (fun e => hBl (by cases e; rfl))).trans hL3
  have hK4 : w4.heap[D]? = some (.deferred (some [])) := (hg4.block D (Array.getElem?_eq_some_iff.1 hK3).1 (fun e => hDB (by cases e; rfl))).trans hK3
  have hS4 : w4.heap[Ns]? = some (.cells #[.string ⟨r.toArray⟩] 9 (0, 0)) := (hg4.block Ns (Array.getElem?_eq_some_iff.1 hS3).1 (fun e => by cases e; omega)).trans hS3
  have hrow4 := hown'.kept hg4 (ownsRow_ne_a hown' hv3 (fun cur e => by cases e))
  have hl4 : l < w4.heap.size := (Array.getElem?_eq_some_iff.1 hL4).1
  have hl3 : l < w3.heap.size := (Array.getElem?_eq_some_iff.1 hL3).1
  have hb3 : Below Ns w0 w3 := (hb2.alloc (by omega) _).grown hg3' (by simp; omega) (fun k e => by have := (hrow2.lt k e).1; omega)
  have hb4 : Below Ns w0 w4 := hb3.grown hg4 (by omega) (fun k e => by cases e; omega)
  clear hw4
  refine ⟨_, _, run_endRound none hL4, rfl, ⟨⟨_, (World.putObj_heap_other hBl).trans hv4, ?_⟩, World.putObj_heap_same hl4, (World.putObj_heap_other hDl).trans hK4, (World.putObj_heap_other (by omega)).trans hS4, hb4.grown (grownBy_putObj_a _ _ _) (by omega) (fun k e => by cases e; omega)⟩⟩
  have := hrow4.kept (grownBy_putObj_a w4 l (.loop { { apRec fn sv Bs D .ready none with state := .busy } with state := if (none : Option Code).isNone then .ready else .done, pending := none })) (ownsRow_ne_a hrow4 hL4 (fun cur e => by cases e))
  simpa using this

theorem ApAt.set {w0 : World} {Ns : Nat} {fn : FuncId} {sv : Value} {Bs l D : Nat} {ss : List (List UInt8)} {r : List UInt8} {W : World} (h : ApAt w0 Ns fn sv Bs l D ss r W) (h0B : Ns < Bs) (h0l : Ns < l) (h0D : Ns < D) (q : List UInt8) :
    ApAt w0 Ns fn sv Bs l D ss q (W.setCell ⟨Ns, 0, none⟩ (.string ⟨q.toArray⟩)) := by
  have hg := grownBy_setCell0_a W Ns (.string ⟨q.toArray⟩)
  obtain ⟨v, hv, hrow⟩ := h.box
  have ne : ∀ {j : Nat}, Ns < j → some j ≠ some Ns := fun hj e => by cases e; omega
  refine ⟨⟨v, (hg.block Bs (Array.getElem?_eq_some_iff.1 hv).1 (ne h0B)).trans hv, hrow.kept hg (.inr fun e => ?_)⟩, (hg.block l (Array.getElem?_eq_some_iff.1 h.L).1 (ne h0l)).trans h.L, (hg.block D (Array.getElem?_eq_some_iff.1 h.K).1 (ne h0D)).trans h.K, heap_setCell_box_a _ h.S, h.below.grown hg (Nat.le_of_lt (Array.getElem?_eq_some_iff.1 h.S).1) (fun k e => by cases e; exact Nat.le_refl _)⟩
  have := (hrow.lt Ns e).1
  omega
/-- strings.Cut at one space, as the walk of the iterator asks it -/
def CutSp : Prop := ∀ (r : List UInt8) (W : World), r.length < 4294967296000000 → Calls Tryz.prog 56 #[.string ⟨r.toArray⟩, .string ⟨#[32]⟩] W fun e w' => e = .returned (.tuple #[.string ⟨(Lib.cut r [32]).1.toArray⟩, .string ⟨(Lib.cut r [32]).2.1.toArray⟩, .bool (Lib.cut r [32]).2.2]) ∧ ∃ n, w' = W.drewN n
/-- how long what is left is -/
def strLeft (Ns : Nat) (w : World) : Nat := match w.cell? ⟨Ns, 0, none⟩ with
  | some (.string b) => b.size
  | _ => 0
theorem strLeft_of {Ns : Nat} {w : World} {r : List UInt8} (h : w.cell? ⟨Ns, 0, none⟩ = some (.string ⟨r.toArray⟩)) : strLeft Ns w = r.length := by
  unfold strLeft; rw [h]; rfl

/-- what is left to give, as the loop's own flag tells it -/
def leftW (b : Bool) (r : List UInt8) : List (List UInt8) := if b then wordsL r else []
set_option maxRecDepth 100000 in
set_option maxHeartbeats 2000000 in
/-- the iterator of words, against AppendSeq's round -/
theorem words1_in (hcut : CutSp) (n : Nat) (hn : 1 ≤ n) (w0 : World) (Ns : Nat) (fn : FuncId) (sv : Value) (Bs l D : Nat) (hBl : Bs ≠ l) (hDl : D ≠ l) (hDB : D ≠ Bs) (h0B : Ns < Bs) (h0l : Ns < l) (h0D : Ns < D)
    (s : List UInt8) (hs : s.length ≤ 8796093022000) (W : World) (h : ApAt w0 Ns fn sv Bs l D [] s W) :
    CallsIn Fence.wide n Tryz.prog 55 #[.func (.yield l) #[] #[], .pointer (some ⟨Ns, 0, none⟩)] W fun e W' => (∃ v, e = .returned v) ∧ ∃ r, ApAt w0 Ns fn sv Bs l D (wordsL s) r W' := by
  have hwl := wordsL_len s
  refine callsIn_of_wp Tryz.func55 rfl trivial ?_ rfl
  simp only [Tryz.ntmps55, List.size_toArray, List.length_cons, List.length_nil, Nat.reduceAdd, Nat.reduceSub, Array.replicate_succ, Array.replicate_zero, List.push_toArray, List.append_toArray, List.nil_append, List.cons_append]
  gi_wp2
  gi_loopw [3] (fun m wr => ∃ (b : Bool) (ss : List (List UInt8)) (r : List UInt8), m = .bool b ∧ Hid (wordsL s = ss ++ leftW b r) ∧ r.length ≤ 8796093022000 ∧ ApAt w0 Ns fn sv Bs l D ss r wr)
    (fun m wr => match m with | .bool true => strLeft Ns wr + 1 | _ => 0)
  case atStart => exact ⟨true, [], s, rfl, show _ = _ from rfl, hs, h⟩
  case round =>
    obtain ⟨b, ss, r, rfl, HW, hr, hA⟩ := hrel
    cases b
    · gi_wp2
      refine bodyPost_end (results_none rfl _ _ _) rfl ?_
      refine ⟨⟨_, rfl⟩, r, ?_⟩
      rw [HW.out]
      simpa [leftW] using hA
    · have HC := Lib.hid (wordsL_cut r)
      have HL := Lib.hid (cut_len r)
      have hle := cut_le r
      have hc0 := fun W => (callsIn_wide (n := n - 1)).2 (hcut r W (by omega))
      have HC0 := Lib.hid hc0
      clear hc0
      have hlen : ss.length + 1 ≤ (wordsL s).length := by
        rw [HW.out, show leftW true r = wordsL r from rfl, HC.out]; simp
      obtain ⟨hSc, hSf⟩ := cell_of_box_a hA.S
      have hleft := strLeft_of hSc
      have HLF := Lib.hid hleft
      clear hleft
      generalize Lib.cut r [32] = q at *
      obtain ⟨qa, qb, qm⟩ := q
      simp only at HC HL
      gi_wp2
      refine ⟨trivial, (HC0.out _).mono ?_⟩
      rintro e w' ⟨rfl, q, rfl⟩
      have hA1 := (hA.drewN q).set h0B h0l h0D qb
      have HS4 := Lib.hid (strLeft_of (cell_of_box_a hA1.S).1)
      obtain ⟨hSc1, hSf1⟩ := cell_of_box_a (hA.drewN q).S
      obtain ⟨fn', tmps, assign, body, hy, hR⟩ := apYield (n - 1) w0 Ns fn sv Bs l D hBl hDl hDB h0B h0l h0D (wordsL s).length (by unfold maxLen; omega) (by omega) ss qb qa _ hA1 (by omega)
      have HR := Lib.hid hR
      clear hR
      simp only [encStr] at hy
      clear hA hA1 hSc hSf
      gi_wp2
      refine HR.out.mono ?_
      rintro e W3 ⟨rfl, hA3⟩
      have HS3 := Lib.hid (strLeft_of (cell_of_box_a hA3.S).1)
      gi_wp2
      go_roundw
      case rel => exact ⟨qm, ss ++ [qa], qb, rfl, by unfold Hid; rw [HW.out, show leftW true r = wordsL r from rfl, HC.out]; simp [leftW], by have hle2 : qb.length ≤ r.length := hle; omega, hA3⟩
      case measure =>
        cases qm
        · show 0 < strLeft Ns wr + 1
          omega
        · show strLeft Ns W3 + 1 < strLeft Ns wr + 1
          rw [HS3.out, HLF.out]
          have := HL.out rfl
          omega
set_option maxRecDepth 100000 in
set_option maxHeartbeats 2000000 in
/-- slices.AppendSeq of the words -/
theorem appendSeq_words (hcut : CutSp) (n : Nat) (hn : 2 ≤ n) (Ns : Nat) (s : List UInt8) (hs : s.length ≤ 8796093022000) (w : World) (hS : w.heap[Ns]? = some (.cells #[.string ⟨s.toArray⟩] 9 (0, 0))) :
    CallsIn Fence.wide n Tryz.prog 54 #[.slice none 0 0, .func (.func 55) #[] #[.pointer (some ⟨Ns, 0, none⟩)]] w fun e w' => ∃ v : Value, e = .returned v ∧ w'.ownsRow (Ns + 1) 9 1 v (wordsL s).length ((wordsL s).map encStr) ∧ Below Ns w w' := by
  have h1 : 1 ≤ n := by omega
  have hNs : Ns < w.heap.size := (Array.getElem?_eq_some_iff.1 hS).1
  have eg : ∀ args w, (callFunc 55 args).run Tryz.prog w = .ok (.enter 55 args) w := enters_of Tryz.func55 (by kernel_rfl) rfl
  refine callsIn_of_wp_marks Tryz.func54 rfl trivial ?_ rfl
  simp only [Tryz.ntmps54, List.size_toArray, List.length_cons, List.length_nil, Nat.reduceAdd, Nat.reduceSub, Array.replicate_succ, Array.replicate_zero, List.push_toArray, List.append_toArray, List.nil_append, List.cons_append]
  gi_wp2
  refine wpIn_rangeFunc ?_
  intro fn hfn
  rw [show Fence.wide.round = none from rfl]
  obtain ⟨W0, hW0⟩ : ∃ W0, w.alloc (.cells #[.slice none 0 0] 22) = W0 := ⟨_, rfl⟩
  have hs0 : W0.heap.size = w.heap.size + 1 := by rw [← hW0]; simp
  have hv0 : W0.heap[w.heap.size]? = some (.cells #[.slice none 0 0] 22 (0, 0)) := by rw [← hW0]; exact World.alloc_heap_new w _
  have hS0 : W0.heap[Ns]? = some (.cells #[.string ⟨s.toArray⟩] 9 (0, 0)) := by rw [← hW0]; exact (Below.heap_alloc _ _ Ns hNs).trans hS
  have hb0 : Below Ns w W0 := by rw [← hW0]; exact (Below.refl _ w).alloc (Nat.le_of_lt hNs) _
  rw [hW0]
  obtain ⟨W1, hW1⟩ : ∃ W1, (W0.alloc (.deferred (some []))).alloc (.loop (apRec fn (.func (.func 55) #[] #[.pointer (some ⟨Ns, 0, none⟩)]) w.heap.size W0.heap.size .ready none)) = W1 := ⟨_, rfl⟩
  have hold : ∀ k, k < W0.heap.size → W1.heap[k]? = W0.heap[k]? := fun k hk => by
    rw [← hW1]; exact (Below.heap_alloc _ _ k (by simp; omega)).trans (Below.heap_alloc _ _ k hk)
  have hb1 : Below Ns w W1 := by rw [← hW1]; exact (hb0.alloc (by omega) _).alloc (by simp; omega) _
  have hs1 : W1.heap.size = W0.heap.size + 2 := by rw [← hW1]; simp
  have hM : ApAt w Ns fn (.func (.func 55) #[] #[.pointer (some ⟨Ns, 0, none⟩)]) w.heap.size (W0.heap.size + 1) W0.heap.size [] s W1 :=
    ⟨⟨_, (hold w.heap.size (by omega)).trans hv0, ⟨rfl, .inl ⟨rfl, rfl⟩⟩⟩,
     by rw [← hW1]; have := World.alloc_heap_new (W0.alloc (.deferred (some []))) (.loop (apRec fn (.func (.func 55) #[] #[.pointer (some ⟨Ns, 0, none⟩)]) w.heap.size W0.heap.size .ready none)); rwa [World.size_alloc] at this,
     by rw [← hW1]; exact (Below.heap_alloc _ _ _ (by simp)).trans (World.alloc_heap_new W0 _), (hold Ns (by omega)).trans hS0, hb1⟩
  refine ⟨W0.heap.size + 1, [{ target := .collected W0.heap.size, args := #[] }], W1, { target := .fn (.func 55) #[.pointer (some ⟨Ns, 0, none⟩)], args := #[.func (.yield (W0.heap.size + 1)) #[] #[]] }, W1, 55,
    #[.func (.yield (W0.heap.size + 1)) #[] #[]] ++ #[.pointer (some ⟨Ns, 0, none⟩)], W1, ?_, ?_, ?_, ?_, fun _ => h1, ?_⟩
  · rw [← hW1]; exact run_enterLoop_outer _ _ _ _ _
  · simp [resolve, go_sem]
  · intro f' hf'; trivial
  · simp [invoke, go_sem, eg]
  · refine (words1_in hcut (n - 1) (by omega) w Ns fn _ w.heap.size (W0.heap.size + 1) W0.heap.size (by omega) (by omega) (by omega) (by omega) (by omega) (by omega) s hs W1 hM).mono ?_
    rintro e W2 ⟨⟨v0, rfl⟩, r, h2⟩
    obtain ⟨v, hv, hrow⟩ := h2.box
    have hlt2 : W0.heap.size + 1 < W2.heap.size := (Array.getElem?_eq_some_iff.1 h2.L).1
    have hend := run_endLoop (P := Tryz.prog) h2.L (by simp [apRec])
    obtain ⟨W3, hW3⟩ : ∃ W3, W2.putObj (W0.heap.size + 1) (.loop { apRec fn (.func (.func 55) #[] #[.pointer (some ⟨Ns, 0, none⟩)]) w.heap.size W0.heap.size .ready none with state := .exhausted }) = W3 := ⟨_, rfl⟩
    rw [hW3] at hend
    have hg3 : W2.grownBy W3 (some (W0.heap.size + 1)) := by rw [← hW3]; exact grownBy_putObj_a _ _ _
    have hv3 : W3.heap[w.heap.size]? = some (.cells #[v] 22 (0, 0)) := by rw [← hW3]; exact (World.putObj_heap_other (by omega)).trans hv
    have hK3 : W3.heap[W0.heap.size]? = some (.deferred (some [])) := by rw [← hW3]; exact (World.putObj_heap_other (by omega)).trans h2.K
    have hrow3 := hrow.kept hg3 (ownsRow_ne_a hrow h2.L (fun cur e => by cases e))
    have hz3 := hg3.size
    have hb3 : Below Ns w W3 := h2.below.grown hg3 (by omega) (fun k e => by cases e; omega)
    obtain ⟨hc3, hf3⟩ := cell_of_box_a hv3
    clear hW3
    refine ⟨none, W3, hend, ?_⟩
    gi_wp2
    rw [← hs0]
    refine ⟨by simp, .inl ⟨_, _, rfl, run_takeDeferred hK3, ?_⟩⟩
    exact ⟨_, results_tmp rfl _ _ _, v, rfl, hrow3.kept (grownBy_putObj_a _ _ _) (ownsRow_ne_a hrow3 hK3 (fun cur e => by cases e)), hb3.grown (grownBy_putObj_a _ _ _) (by omega) (fun k e => by cases e; omega)⟩

set_option maxHeartbeats 1000000 in
/-- slices.Collect of the words -/
theorem collect_words (hcut : CutSp) (Ns : Nat) (s : List UInt8) (hs : s.length ≤ 8796093022000) (w : World) (hS : w.heap[Ns]? = some (.cells #[.string ⟨s.toArray⟩] 9 (0, 0))) :
    Calls Tryz.prog 25 #[.func (.func 55) #[] #[.pointer (some ⟨Ns, 0, none⟩)]] w fun e w' => ∃ v : Value, e = .returned v ∧ w'.ownsRow (Ns + 1) 9 1 v (wordsL s).length ((wordsL s).map encStr) ∧ Below Ns w w' := by
  have hA := (callsIn_wide (n := 2)).1 (appendSeq_words hcut 2 (Nat.le_refl _) Ns s hs w hS)
  have HA := Lib.hid hA
  clear hA hS
  go_enter Tryz.func25, Tryz.ntmps25
  go_wp2_with (go_at_call 54; refine HA.out.mono ?_; rintro e w' ⟨v, rfl, hrow, hb⟩)
  go_ret
  exact ⟨v, rfl, hrow, hb⟩

theorem words_any (s : ByteArray) (w : World) : Calls Tryz.prog 26 #[.string s] w fun e w' => e = .returned (.func (.func 55) #[] #[.pointer (some ⟨w.heap.size, 0, none⟩)]) ∧ w' = w.alloc (.cells #[.string s] 9) := by
  have hmf : ∀ (fn : Fn) (first cap : Array Value) (w : World), (Instr.makeFunc fn first cap).run Tryz.prog w = .ok (.func fn first cap) w := fun _ _ _ _ => rfl
  go_enter Tryz.func26, Tryz.ntmps26
  go_wp2_with fail
  go_ret
  exact ⟨rfl, rfl⟩
end Go.Proofs.YtkjajpfgdjfcoaaGreatDoor
namespace Go.Proofs.YtkjajpfgdjfcoaaGreatDoor
open Go.RowKit Go.Maps Go.Sort Go.Shelf

/-- the library's table of powers of ten lies where it was laid, whatever is made behind it -/
def Tab10 (w : World) : Prop := Lib.TabBelow Tryz.prog w.heap.size w "internal/strconv.uint64pow10" .u64 Lib.pow10Tab
theorem Tab10.below {w w' : World} (h : Tab10 w) (hb : Below w.heap.size w w') : Tab10 w' := fun w2 h2 => h w2 (hb.trans (h2.mono hb.size))
theorem itoa_any (n : Int) (w : World) (h0 : -9223372036854775808 ≤ n) (h1 : n ≤ 9223372036854775807) (ht : Tab10 w) :
    Calls Tryz.prog 42 #[.int .i64 n] w fun e w' => e = .returned (.string ⟨(Lib.itoa n).toArray⟩) ∧ Below w.heap.size w w' :=
  (Tryz.strconv_Itoa n h0 h1 w ht.here).mono fun _ _ ⟨he, k, os, hw⟩ => ⟨he, hw ▸ Lib.below_grow _ _ (Nat.le_refl _) k os⟩
theorem trim_any (s : ByteArray) (hs : s.size ≤ 9223372036854775807) (w : World) :
    Calls Tryz.prog 58 #[.string s, .string ⟨#[48, 49, 50, 51, 52, 53, 54, 55, 56, 57]⟩] w fun e w' => e = .returned (.string ⟨(Lib.trimS s.data.toList dig10).toArray⟩) ∧ Below w.heap.size w w' := by
  have h := Any.strings_Trim_laid Tryz.lays160 (by kernel_rfl) s ⟨#[48, 49, 50, 51, 52, 53, 54, 55, 56, 57]⟩ w hs (by decide) (ascii_of_all (by decide))
  exact h
theorem head_get (s : ByteArray) (h : 0 < s.size) : s.data.toList.headD 0 = s[0] := by
  have hl : 0 < s.data.toList.length := by simpa using h
  cases hc : s.data.toList with
  | nil => rw [hc] at hl; simp at hl
  | cons c l =>
    have e : s[0] = s.data.toList[0] := by rw [Array.getElem_toList]; rfl
    rw [e]; simp [hc]
theorem prefix_minus (x : List UInt8) : Lib.trimPrefix x [45] = unsign x ∧ Lib.hasPrefix x [45] = isMinus x := by
  have e2 : Lib.hasPrefix x [45] = isMinus x := by
    cases x with
    | nil => rfl
    | cons c l =>
      show List.isPrefixOf [45] (c :: l) = (c == 45)
      simp only [List.isPrefixOf, Bool.and_true]
      rw [Bool.eq_iff_iff]
      simp
      exact eq_comm
  refine ⟨?_, e2⟩
  unfold Lib.trimPrefix unsign
  rw [e2]
  cases isMinus x <;> simp
def numT (o : Option Int) : Value := match o with | some n => .tuple #[.int .i64 n, .bool true] | none => .tuple #[.int .i64 0, .bool false]
theorem toList_ne (s : ByteArray) (h : 0 < s.size) : s.toList.isEmpty = false := by
  have hlen : s.data.toList.length = s.size := by simp
  have hne1 : ¬ s.toList = [] := by
    rw [ByteArray.toList_eq]
    intro e
    rw [e] at hlen
    simp at hlen
    omega
  simpa using hne1
theorem ba_empty (s : ByteArray) (h : s.size = 0) : s = ⟨#[]⟩ := by
  have : s.data = #[] := Array.eq_empty_of_size_eq_zero (by show s.size = 0; exact h)
  cases s; simp at this; rw [this]
/-- which way a word goes: no digits, another letter, minus zero, a leading zero, long, short -/
inductive NumWay (m : Bool) (s : ByteArray) : Prop
  | empty (h : s = ⟨#[]⟩)
  | letter (h : 0 < s.size) (hr : (Lib.trimS s.data.toList dig10).isEmpty = false)
  | zero (h : 0 < s.size) (hr : Lib.trimS s.data.toList dig10 = []) (hm : m = true) (hz : s = ⟨#[48]⟩)
  | lead (h : 1 < s.size) (hr : Lib.trimS s.data.toList dig10 = []) (h48 : ((s[0].toNat : Nat) : Int) = 48)
  | fine (h : 0 < s.size) (hr : Lib.trimS s.data.toList dig10 = []) (hz : m = true → s ≠ ⟨#[48]⟩) (h48 : ∀ _ : 1 < s.size, ((s[0].toNat : Nat) : Int) ≠ 48) (hb : noNum m s.data.toList = false)
theorem numWay (m : Bool) (s : ByteArray) : NumWay m s ∧ (noNum m s.data.toList = false ↔ (0 < s.size ∧ Lib.trimS s.data.toList dig10 = [] ∧ (m = true → s ≠ ⟨#[48]⟩) ∧ (1 < s.size → s.data.toList.headD 0 ≠ 48))) := by
  have hlen : s.data.toList.length = s.size := by simp
  have hz : (s.data.toList == [48]) = true ↔ s = ⟨#[48]⟩ := by
    rw [beq_iff_eq]
    constructor
    · intro h
      cases s with
      | mk a => exact congrArg ByteArray.mk (by have h : a.toList = [48] := h
                                                rw [← Array.toArray_toList (xs := a), h])
    · intro h; rw [h]
  have key : noNum m s.data.toList = false ↔ (0 < s.size ∧ Lib.trimS s.data.toList dig10 = [] ∧ (m = true → s ≠ ⟨#[48]⟩) ∧ (1 < s.size → s.data.toList.headD 0 ≠ 48)) := by
    unfold noNum
    rw [Bool.or_eq_false_iff, Bool.or_eq_false_iff, numBad_false, trim_nil, hlen]
    simp only [Bool.not_eq_false', Bool.and_eq_false_iff]
    constructor
    · rintro ⟨⟨⟨h1, h2⟩, h3⟩, h4⟩
      refine ⟨?_, h3, fun hm => ?_, h2⟩
      · rcases Nat.eq_zero_or_pos s.size with h | h
        · rw [ba_empty s h] at h1; exact absurd rfl h1
        · exact h
      · intro e
        rcases h4 with h4 | h4
        · rw [hm] at h4; cases h4
        · rw [hz.2 e] at h4; cases h4
    · rintro ⟨h1, h2, h3, h4⟩
      refine ⟨⟨⟨fun e => ?_, h4⟩, h2⟩, ?_⟩
      · rw [e] at hlen; simp at hlen; omega
      · cases m with
        | false => exact .inl rfl
        | true =>
          right
          cases hq : (s.data.toList == [48]) with
          | false => rfl
          | true => exact absurd (hz.1 hq) (h3 rfl)
  refine ⟨?_, key⟩
  rcases Nat.eq_zero_or_pos s.size with h0 | h0
  · exact .empty (ba_empty s h0)
  · by_cases hr : Lib.trimS s.data.toList dig10 = []
    · by_cases hmz : m = true ∧ s = ⟨#[48]⟩
      · exact .zero h0 hr hmz.1 hmz.2
      · by_cases hl : 1 < s.size ∧ s.data.toList.headD 0 = 48
        · refine .lead hl.1 hr ?_
          rw [← head_get s h0, hl.2]; rfl
        · refine .fine h0 hr (fun hm e => hmz ⟨hm, e⟩) (fun h1 e => hl ⟨h1, ?_⟩) (key.2 ⟨h0, hr, fun hm e => hmz ⟨hm, e⟩, fun h1 e => hl ⟨h1, e⟩⟩)
          rw [head_get s h0]
          exact UInt8.toNat_inj.1 (by have : (s[0].toNat : Nat) = 48 := by omega
                                      simpa using this)
    · refine .letter h0 ?_
      simpa using hr
theorem not_zero {s : ByteArray} (h : s ≠ ⟨#[48]⟩) : (s.toList == [48]) = false := by
  rw [beq_eq_false_iff_ne]
  intro e
  rw [ByteArray.toList_eq] at e
  apply h
  cases s with
  | mk a => exact congrArg ByteArray.mk (by have h : a.toList = [48] := e
                                            rw [← Array.toArray_toList (xs := a), h])
/-- what is left of the tests of a number -/
structure NumFine (m : Bool) (s : ByteArray) : Prop where
  hz : m = true → s ≠ ⟨#[48]⟩
  h48 : ∀ _ : 1 < s.size, ((s[0].toNat : Nat) : Int) ≠ 48
set_option maxRecDepth 100000 in
set_option maxHeartbeats 1000000 in
theorem number_any (x : List UInt8) (hx : x.length ≤ 120) (w : World) (ht : Tab10 w) :
    Calls Tryz.prog 30 #[.string ⟨x.toArray⟩] w fun e w' => e = .returned (numT (numO x)) ∧ Below w.heap.size w w' := by
  have HX : Hid (∀ W : World, Calls Tryz.prog 57 #[.string ⟨x.toArray⟩, .string ⟨#[45]⟩] W fun e w' => e = .returned (.tuple #[.string ⟨(unsign x).toArray⟩, .bool (isMinus x)]) ∧ w' = W) := show ∀ _, _ from fun W => by
    have h := Tryz.strings_CutPrefix ⟨x.toArray⟩ ⟨#[45]⟩ W
    simpa [(prefix_minus x).1, (prefix_minus x).2] using h
  have HN : Hid (numO x = if noNum (isMinus x) (unsign x) then none else some (sgn (isMinus x) (valO (unsign x)))) := show _ = _ from rfl
  have hul : (unsign x).length ≤ 120 := by
    unfold unsign
    split
    · simp; omega
    · exact hx
  have HT0 := Lib.hid ht
  generalize isMinus x = m at *
  generalize hd : unsign x = d at *
  clear hd
  obtain ⟨s, hs⟩ : ∃ s : ByteArray, s.data.toList = d := ⟨⟨d.toArray⟩, by simp⟩
  subst hs
  have hsz : s.size ≤ 120 := by simpa using hul
  have e0 : (⟨s.data.toList.toArray⟩ : ByteArray) = s := by simp
  rw [e0] at HX
  generalize (⟨x.toArray⟩ : ByteArray) = X at *
  obtain ⟨hw, hiff⟩ := numWay m s
  have HT := Lib.hid (fun W => trim_any s (by omega) W)
  clear hul hx ht
  cases hw with
  | empty h =>
    subst h
    have HV : Hid (numO x = none) := show _ = _ from by rw [HN.out]; cases m <;> rfl
    clear HN hiff HT
    go_enter Tryz.func30, Tryz.ntmps30
    go_wp2_with (go_at_call 57; refine (HX.out _).mono ?_; rintro e w' ⟨rfl, rfl⟩)
    go_ret2
    exact ⟨by rw [HV.out]; rfl, Below.refl _ _⟩
  | letter h hr =>
    have hne := toList_ne s h
    have HV : Hid (numO x = none) := show _ = _ from by
      rw [HN.out]
      have : noNum m s.data.toList = true := by
        cases hq : noNum m s.data.toList with
        | true => rfl
        | false => rw [(hiff.1 hq).2.1] at hr; cases hr
      rw [this]; rfl
    clear HN hiff
    generalize Lib.trimS s.data.toList dig10 = r at *
    have hr1 : (!r.isEmpty) = true := by rw [hr]; rfl
    go_enter Tryz.func30, Tryz.ntmps30
    go_wp2_with (go_at_call 57; refine (HX.out _).mono ?_; rintro e w' ⟨rfl, rfl⟩)
    refine (HT.out _).mono ?_
    rintro e w1 ⟨rfl, hb⟩
    go_wp2_with fail
    go_ret2
    exact ⟨by rw [HV.out]; rfl, hb⟩
  | zero h hr hm hz =>
    subst hz
    subst hm
    have HV : Hid (numO x = none) := show _ = _ from by rw [HN.out]; rfl
    rw [hr] at HT
    clear HN hiff hr
    go_enter Tryz.func30, Tryz.ntmps30
    go_wp2_with (go_at_call 57; refine (HX.out _).mono ?_; rintro e w' ⟨rfl, rfl⟩)
    refine (HT.out _).mono ?_
    rintro e w1 ⟨rfl, hb⟩
    go_wp2_with fail
    go_ret2
    exact ⟨by rw [HV.out]; rfl, hb⟩
  | lead h hr h48 =>
    have hne := toList_ne s (by omega)
    have HV : Hid (numO x = none) := show _ = _ from by
      rw [HN.out]
      have : noNum m s.data.toList = true := by
        cases hq : noNum m s.data.toList with
        | true => rfl
        | false =>
          have := (hiff.1 hq).2.2.2 h
          rw [head_get s (by omega)] at this
          exact absurd (UInt8.toNat_inj.1 (by have : (s[0].toNat : Nat) = 48 := by omega
                                              simpa using this)) this
      rw [this]; rfl
    have z1 : (1 : Int) < (s.size : Int) := by omega
    rw [hr] at HT
    clear HN hiff hr
    go_enter Tryz.func30, Tryz.ntmps30
    go_wp2_with (go_at_call 57; refine (HX.out _).mono ?_; rintro e w' ⟨rfl, rfl⟩)
    refine (HT.out _).mono ?_
    rintro e w1 ⟨rfl, hb⟩
    go_wp2_with fail
    all_goals (go_ret2; exact ⟨by rw [HV.out]; rfl, hb⟩)
  | fine h hr hz h48 hb =>
    have hne := toList_ne s h
    have hdig := (trim_nil _).1 hr
    have hnb : s.data.toList ≠ [] := fun e => by
      have : s.data.toList.length = s.size := by simp
      rw [e] at this; simp at this; omega
    have hlen : s.data.toList.length = s.size := by simp
    rw [hr] at HT
    rw [hb] at HN
    simp only [Bool.false_eq_true, if_false] at HN
    by_cases h15 : 15 < s.size
    · have z15 : (15 : Int) < (s.size : Int) := by omega
      have z1 : (1 : Int) < (s.size : Int) := by omega
      have z48 := h48 (by omega)
      have z48' : (((s[0].toNat : Nat) : Int) == 48) = false := by simpa using z48
      have HVO : Hid (valO s.data.toList = 1000000000001) := show _ = _ from by unfold valO; rw [if_pos (by omega)]
      have HI := Lib.hid (fun W h => itoa_any 1000000000001 W (by decide) (by decide) h)
      have hai : (⟨(Lib.itoa 1000000000001).toArray⟩ : ByteArray).size ≤ 18 ∧ Lib.atoi (⟨(Lib.itoa 1000000000001).toArray⟩ : ByteArray).data.toList = some 1000000000001 := atoi_itoa (n := 1000000000001) (by decide)
      have HA := Lib.hid (fun W => Tryz.strconv_Atoi ⟨(Lib.itoa 1000000000001).toArray⟩ 1000000000001 hai.1 hai.2 W)
      clear hiff hr hb hdig hnb hlen hai h48 z48
      rw [HVO.out] at HN
      clear HVO
      generalize (⟨(Lib.itoa 1000000000001).toArray⟩ : ByteArray) = I at *
      cases m
      · clear hz
        go_enter Tryz.func30, Tryz.ntmps30
        go_wp2_with (go_at_call 57; refine (HX.out _).mono ?_; rintro e w' ⟨rfl, rfl⟩)
        refine (HT.out _).mono ?_
        rintro e w1 ⟨rfl, hb⟩
        have ht1 := HT0.out.below hb
        have HT1 := Lib.hid ht1
        clear ht1
        go_wp2_with fail
        refine (HI.out _ HT1.out).mono ?_
        rintro e w2 ⟨rfl, hb2⟩
        go_wp2_with fail
        refine (HA.out _).mono ?_
        rintro e w3 ⟨rfl, t, rfl⟩
        have hb3 := below_trans (below_trans hb hb2) (bytesWorld_below _ 5 t)
        go_wp2_with fail
        go_ret2
        exact ⟨by rw [HN.out]; rfl, hb3⟩
      · have hz' := not_zero (hz rfl)
        have hz2 : ¬ s.toList = [48] := by simpa using hz'
        clear hz
        go_enter Tryz.func30, Tryz.ntmps30
        go_wp2_with (go_at_call 57; refine (HX.out _).mono ?_; rintro e w' ⟨rfl, rfl⟩)
        refine (HT.out _).mono ?_
        rintro e w1 ⟨rfl, hb⟩
        have ht1 := HT0.out.below hb
        have HT1 := Lib.hid ht1
        clear ht1
        go_wp2_with fail
        refine (HI.out _ HT1.out).mono ?_
        rintro e w2 ⟨rfl, hb2⟩
        go_wp2_with fail
        refine (HA.out _).mono ?_
        rintro e w3 ⟨rfl, t, rfl⟩
        have hb3 := below_trans (below_trans hb hb2) (bytesWorld_below _ 5 t)
        go_wp2_with fail
        go_ret2
        exact ⟨by rw [HN.out]; rfl, hb3⟩
    · have HVO : Hid (valO s.data.toList = (valD s.data.toList : Int)) := show _ = _ from by unfold valO; rw [if_neg (by omega)]
      have z15 : ¬ (15 : Int) < (s.size : Int) := by omega
      have HA := Lib.hid (fun W => Tryz.strconv_Atoi s (valD s.data.toList : Int) (by omega) (atoi_val _ hdig hnb) W)
      have hbd := valD_lt s.data.toList hdig
      have hbd2 : 10 ^ s.data.toList.length ≤ 10 ^ 15 := Nat.pow_le_pow_right (by omega) (by omega)
      have hn0 : (0 : Int) ≤ ((valD s.data.toList : Nat) : Int) := by omega
      have hn1 : ((valD s.data.toList : Nat) : Int) < 1000000000000000 := by omega
      clear hiff hr hb hdig hnb hlen hbd hbd2
      rw [HVO.out] at HN
      clear HVO
      generalize ((valD s.data.toList : Nat) : Int) = n at *
      have hw : IntKind.i64.wrap (-n) = -n := by rw [IntKind.wrap_i64]; omega
      by_cases h1 : 1 < s.size
      · have z1 : (1 : Int) < (s.size : Int) := by omega
        have z48 := h48 h1
        have z48' : (((s[0].toNat : Nat) : Int) == 48) = false := by simpa using z48
        clear h48 z48
        cases m
        · clear hz
          go_enter Tryz.func30, Tryz.ntmps30
          go_wp2_with (go_at_call 57; refine (HX.out _).mono ?_; rintro e w' ⟨rfl, rfl⟩)
          refine (HT.out _).mono ?_
          rintro e w1 ⟨rfl, hb⟩
          go_wp2_with fail
          refine (HA.out _).mono ?_
          rintro e w3 ⟨rfl, t, rfl⟩
          have hb3 := below_trans hb (bytesWorld_below _ 5 t)
          go_wp2_with fail
          go_ret2
          exact ⟨by rw [HN.out]; rfl, hb3⟩
        · have hz' := not_zero (hz rfl)
          have hz2 : ¬ s.toList = [48] := by simpa using hz'
          clear hz
          go_enter Tryz.func30, Tryz.ntmps30
          go_wp2_with (go_at_call 57; refine (HX.out _).mono ?_; rintro e w' ⟨rfl, rfl⟩)
          refine (HT.out _).mono ?_
          rintro e w1 ⟨rfl, hb⟩
          go_wp2_with fail
          refine (HA.out _).mono ?_
          rintro e w3 ⟨rfl, t, rfl⟩
          have hb3 := below_trans hb (bytesWorld_below _ 5 t)
          go_wp2_with fail
          go_ret2
          exact ⟨by rw [HN.out]; rfl, hb3⟩
      · have z1 : ¬ (1 : Int) < (s.size : Int) := by omega
        clear h48
        cases m
        · clear hz
          go_enter Tryz.func30, Tryz.ntmps30
          go_wp2_with (go_at_call 57; refine (HX.out _).mono ?_; rintro e w' ⟨rfl, rfl⟩)
          refine (HT.out _).mono ?_
          rintro e w1 ⟨rfl, hb⟩
          go_wp2_with fail
          refine (HA.out _).mono ?_
          rintro e w3 ⟨rfl, t, rfl⟩
          have hb3 := below_trans hb (bytesWorld_below _ 5 t)
          go_wp2_with fail
          go_ret2
          exact ⟨by rw [HN.out]; rfl, hb3⟩
        · have hz' := not_zero (hz rfl)
          have hz2 : ¬ s.toList = [48] := by simpa using hz'
          clear hz
          go_enter Tryz.func30, Tryz.ntmps30
          go_wp2_with (go_at_call 57; refine (HX.out _).mono ?_; rintro e w' ⟨rfl, rfl⟩)
          refine (HT.out _).mono ?_
          rintro e w1 ⟨rfl, hb⟩
          go_wp2_with fail
          refine (HA.out _).mono ?_
          rintro e w3 ⟨rfl, t, rfl⟩
          have hb3 := below_trans hb (bytesWorld_below _ 5 t)
          go_wp2_with fail
          go_ret2
          exact ⟨by rw [HN.out]; rfl, hb3⟩
end Go.Proofs.YtkjajpfgdjfcoaaGreatDoor
namespace Go.Proofs.YtkjajpfgdjfcoaaGreatDoor
open Go.RowKit
def encB (l : List UInt8) : Value := .string ⟨l.toArray⟩
/-- the cells of the table: word, name, numbers -/
def verbC (k : Nat) : List Value := [encB (wordN k), .bool (namedB k), .int .i64 (manyN k)]
def verbCells : List Value := (List.range 18).flatMap verbC
set_option maxRecDepth 100000 in
set_option maxHeartbeats 800000 in
theorem verbs_any (w : World) : Calls Tryz.prog 28 #[] w fun e w' => e = .returned (.slice (some ⟨w.heap.size, 0, none⟩) 18 18) ∧ w' = w.alloc (.cells ⟨verbCells⟩ 130) := by
  go_enter Tryz.func28, Tryz.ntmps28
  go_wp2_with fail
  go_ret
  exact ⟨rfl, by first | rfl | (congr 1; done)⟩
end Go.Proofs.YtkjajpfgdjfcoaaGreatDoor
namespace Go.Proofs.YtkjajpfgdjfcoaaGreatDoor
open Go.RowKit
/-- a box (block t) that holds a row of strings (block g from cell 0 on) whose word 2 is u -/
structure BoxW (w : World) (t g : Nat) (n c : Nat) (u : List UInt8) : Prop where
  box : w.cell? ⟨t, 0, none⟩ = some (.slice (some ⟨g, 0, none⟩) n c)
  two : w.cell? ⟨g, 2, none⟩ = some (encB u)
  ht : t < w.heap.size
  hg : g < w.heap.size
  hn : 3 ≤ n
theorem BoxW.below {w w' : World} {t g n c : Nat} {u : List UInt8} (h : BoxW w t g n c u) (hb : Below w.heap.size w w') : BoxW w' t g n c u :=
  ⟨by rw [hb.cell (p := ⟨t, 0, none⟩) h.ht]; exact h.box, by rw [hb.cell (p := ⟨g, 2, none⟩) h.hg]; exact h.two, Nat.lt_of_lt_of_le h.ht hb.size, Nat.lt_of_lt_of_le h.hg hb.size, h.hn⟩
def hitB (a u : List UInt8) : Bool := decide (a = u) && decide (a ≠ [])
theorem enc_eq (a b : List UInt8) : (((⟨a.toArray⟩ : ByteArray).toList == (⟨b.toArray⟩ : ByteArray).toList) = decide (a = b)) := by
  rw [ByteArray.toList_eq, ByteArray.toList_eq, Bool.eq_iff_iff]
  simp
set_option maxRecDepth 100000 in
set_option maxHeartbeats 800000 in
theorem parse1_any (a u : List UInt8) (nm : Bool) (k : Int) (t g n c : Nat) (w : World) (h : BoxW w t g n c u) :
    Calls Tryz.prog 29 #[.agg #[encB a, .bool nm, .int .i64 k], .pointer (some ⟨t, 0, none⟩)] w fun e w' => e = .returned (.bool (hitB a u)) ∧ Below w.heap.size w w' := by
  obtain ⟨h1, h2, ht, hg, hn⟩ := h
  unfold encB at *
  have hn' : (2 : Int) < (n : Int) := by omega
  go_enter Tryz.func29, Tryz.ntmps29
  go_wp2_with fail
  cases he : (a == u)
  · have hd : hitB a u = false := by
      unfold hitB
      rw [decide_eq_false (by simpa using he), Bool.false_and]
    go_quiet (fail)
    go_wp2_with fail
    go_ret
    exact ⟨ret_bool (by rw [hd]), (by repeat (first | exact Below.refl _ _ | assumption | refine balloc ?_ _ | refine below_trans ?_ (by assumption) | refine Below.drew ?_ | refine below_drewN ?_ _ | refine Below.setCell ?_ (by simp <;> omega) _))⟩
  · have hd : hitB a u = !a.isEmpty := by
      unfold hitB
      rw [decide_eq_true (by simpa using he), Bool.true_and]
      cases a <;> simp
    go_quiet (fail)
    go_wp2_with fail
    go_ret
    exact ⟨ret_bool (by rw [hd]), (by repeat (first | exact Below.refl _ _ | assumption | refine balloc ?_ _ | refine below_trans ?_ (by assumption) | refine Below.drew ?_ | refine below_drewN ?_ _ | refine Below.setCell ?_ (by simp <;> omega) _))⟩
end Go.Proofs.YtkjajpfgdjfcoaaGreatDoor
namespace Go.Proofs.YtkjajpfgdjfcoaaGreatDoor
open Go.RowKit
/-- the table lies at block b -/
structure VerbsAt (w : World) (b : Nat) : Prop where
  cell : ∀ i x, verbCells[i]? = some x → w.cell? ⟨b, i, none⟩ = some x
  hb : b < w.heap.size
theorem VerbsAt.below {w w' : World} {b : Nat} (h : VerbsAt w b) (hb : Below w.heap.size w w') : VerbsAt w' b :=
  ⟨fun i x hx => by rw [hb.cell (p := ⟨b, i, none⟩) h.hb]; exact h.cell i x hx, Nat.lt_of_lt_of_le h.hb hb.size⟩
theorem alloc_new (w : World) (o : Obj) : (w.alloc o).heap[w.heap.size]? = some o := by
  show (w.heap.push o)[w.heap.size]? = some o
  exact Array.getElem?_push_size
theorem verbs_new (w : World) : VerbsAt (w.alloc (.cells ⟨verbCells⟩ 130)) w.heap.size := by
  refine ⟨fun i x hx => ?_, by simp⟩
  have hn : (w.alloc (.cells ⟨verbCells⟩ 130)).heap[w.heap.size]? = some (.cells ⟨verbCells⟩ 130 (0, 0)) := alloc_new w _
  unfold World.cell?
  simp only [hn]
  simpa using hx
theorem verbCells_at : ∀ k : Fin 18, verbCells[k.val * 3]? = some (encB (wordN k.val)) ∧ verbCells[k.val * 3 + 1]? = some (.bool (namedB k.val)) ∧ verbCells[k.val * 3 + 2]? = some (.int .i64 (manyN k.val)) := by
  intro k
  match k with
  | ⟨0, _⟩ | ⟨1, _⟩ | ⟨2, _⟩ | ⟨3, _⟩ | ⟨4, _⟩ | ⟨5, _⟩ | ⟨6, _⟩ | ⟨7, _⟩ | ⟨8, _⟩ | ⟨9, _⟩ | ⟨10, _⟩ | ⟨11, _⟩ | ⟨12, _⟩ | ⟨13, _⟩ | ⟨14, _⟩ | ⟨15, _⟩ | ⟨16, _⟩ | ⟨17, _⟩ => exact ⟨rfl, rfl, rfl⟩
  | ⟨n + 18, h⟩ => omega
theorem VerbsAt.at_ {w : World} {b : Nat} (h : VerbsAt w b) {k : Nat} (hk : k < 18) : w.cell? ⟨b, k * 3, none⟩ = some (encB (wordN k)) ∧ w.cell? ⟨b, k * 3 + 1, none⟩ = some (.bool (namedB k)) ∧ w.cell? ⟨b, k * 3 + 2, none⟩ = some (.int .i64 (manyN k)) := by
  obtain ⟨h1, h2, h3⟩ := verbCells_at ⟨k, hk⟩
  exact ⟨h.cell _ _ h1, h.cell _ _ h2, h.cell _ _ h3⟩
/-- the first number from k on whose word is u -/
def vIdx (u : List UInt8) : Nat → Nat → Int
  | 0, _ => -1
  | f + 1, k => if hitB (wordN k) u then (k : Int) else vIdx u f (k + 1)
def idxV (u : List UInt8) : Int := if verbOf u = 0 then -1 else (verbOf u : Int)
theorem vIdx_all (u : List UInt8) : vIdx u 18 0 = idxV u := by
  unfold idxV
  by_cases h : u = []
  · subst h
    decide
  · have main : ∀ (f k : Nat), k + f = 18 → vIdx u f k = match (verbW.drop k).findIdx? (· == u) with | some j => ((k + j : Nat) : Int) | none => -1 := by
      intro f
      induction f with
      | zero =>
        intro k hk
        have : verbW.drop k = [] := by rw [List.drop_eq_nil_iff]; show 18 ≤ k; omega
        rw [this]; rfl
      | succ f ih =>
        intro k hk
        have hlt : k < verbW.length := by show k < 18; omega
        rw [List.drop_eq_getElem_cons hlt, List.findIdx?_cons]
        have hw : wordN k = verbW[k] := by unfold wordN; rw [List.getD_eq_getElem?_getD, List.getElem?_eq_getElem hlt]; rfl
        simp only [vIdx, hw]
        cases he : (verbW[k] == u) with
        | true =>
          have he2 : verbW[k] = u := by simpa using he
          have : hitB verbW[k] u = true := by unfold hitB; simp [he2, h]
          simp [this]
        | false =>
          have he2 : verbW[k] ≠ u := by simpa using he
          have : hitB verbW[k] u = false := by unfold hitB; simp [he2]
          simp only [this, Bool.false_eq_true, if_false]
          rw [ih (k + 1) (by omega)]
          cases (verbW.drop (k + 1)).findIdx? (· == u) with
          | none => rfl
          | some j =>
            show (((k + 1 + j : Nat)) : Int) = ((k + (j + 1) : Nat) : Int)
            congr 1
            omega
    rw [main 18 0 rfl, List.drop_zero]
    unfold verbOf
    rw [if_neg h]
    cases hf : verbW.findIdx? (· == u) with
    | none => rfl
    | some j =>
      have hj : j ≠ 0 := by
        rintro rfl
        obtain ⟨h1, h2, _⟩ := List.findIdx?_eq_some_iff_getElem.1 hf
        have : ([] : List UInt8) = u := by simpa [verbW] using h2
        exact h this.symm
      simp [hj]
set_option maxRecDepth 100000 in
set_option maxHeartbeats 800000 in
theorem index_verbs (u : List UInt8) (b t g n c : Nat) (w : World) (hV : VerbsAt w b) (hX : BoxW w t g n c u) :
    Calls Tryz.prog 27 #[.slice (some ⟨b, 0, none⟩) 18 18, .func (.func 29) #[] #[.pointer (some ⟨t, 0, none⟩)]] w fun e w' => e = .returned (.int .i64 (idxV u)) ∧ Below w.heap.size w w' := by
  have HV := Lib.hid hV
  have HX := Lib.hid hX
  have HR := Lib.hid (vIdx_all u)
  clear hV hX
  go_enter Tryz.func27, Tryz.ntmps27
  go_wp2_with fail
  go_loopw [8] (fun i wr => ∃ k : Nat, k ≤ 18 ∧ i = .int .i64 k ∧ Below w.heap.size w wr ∧ Hid (vIdx u 18 0 = vIdx u (18 - k) k)) (fun i _ => 18 - (intOf i).toNat)
  case atStart => exact ⟨0, Nat.zero_le _, rfl, Below.refl _ _, rfl⟩
  case round =>
    obtain ⟨k, hk, rfl, hB, HI⟩ := hrel
    by_cases hlt : k < 18
    · obtain ⟨s0, s1, s2⟩ := (HV.out.below hB).at_ hlt
      have HS : Hid (vIdx u (18 - k) k = if hitB (wordN k) u then (k : Int) else vIdx u (18 - (k + 1)) (k + 1)) := show _ = _ from by rw [show 18 - k = (18 - (k + 1)) + 1 by omega]; rfl
      have HX2 := Lib.hid (HX.out.below hB)
      generalize wordN k = a at *
      generalize namedB k = nm at *
      generalize ((manyN k : Nat) : Int) = q at *
      unfold encB at s0
      go_wp2_with fail
      refine (parse1_any a u nm q t g n c _ HX2.out).mono ?_
      rintro e w2 ⟨rfl, hb2⟩
      go_wp2_with fail
      · go_ret
        exact ⟨ret_int (by rw [← HR.out, HI.out, HS.out, if_pos ‹_›]), (by repeat (first | exact Below.refl _ _ | assumption | refine balloc ?_ _ | refine below_trans ?_ (by assumption) | refine Below.drew ?_ | refine below_drewN ?_ _ | refine Below.setCell ?_ (by simp <;> omega) _))⟩
      · go_roundw
        case rel => exact ⟨k + 1, by omega, by go_num, (by repeat (first | exact Below.refl _ _ | assumption | refine balloc ?_ _ | refine below_trans ?_ (by assumption) | refine Below.drew ?_ | refine below_drewN ?_ _ | refine Below.setCell ?_ (by simp <;> omega) _)), by unfold Hid; rw [HI.out, HS.out, if_neg (by simp [*])]⟩
        case measure => simp [intOf]; omega
    · obtain rfl : k = 18 := by omega
      go_wp2_with fail
      go_ret
      exact ⟨ret_int (by rw [← HR.out, HI.out]; rfl), (by repeat (first | exact Below.refl _ _ | assumption | refine balloc ?_ _ | refine below_trans ?_ (by assumption) | refine Below.drew ?_ | refine below_drewN ?_ _ | refine Below.setCell ?_ (by simp <;> omega) _))⟩
end Go.Proofs.YtkjajpfgdjfcoaaGreatDoor
namespace Go.Proofs.YtkjajpfgdjfcoaaGreatDoor
open Go.RowKit
/-- a row of numbers -/
def RowI (w : World) (v : Value) (ns : List Int) : Prop :=
  ∃ a c, v = .slice a ns.length c ∧ (ns.length = 0 ∨ ∃ b off, a = some ⟨b, off, none⟩ ∧ b < w.heap.size ∧ ∀ k, k < ns.length → w.cell? ⟨b, off + k, none⟩ = some (.int .i64 (ns.getD k 0)))
theorem RowI.below {w w' : World} {v : Value} {ns : List Int} (h : RowI w v ns) (hb : Below w.heap.size w w') : RowI w' v ns := by
  obtain ⟨a, c, rfl, h⟩ := h
  refine ⟨a, c, rfl, ?_⟩
  rcases h with h | ⟨b, off, rfl, h1, h2⟩
  · exact .inl h
  · exact .inr ⟨b, off, rfl, Nat.lt_of_lt_of_le h1 hb.size, fun k hk => by rw [hb.cell (p := ⟨b, off + k, none⟩) h1]; exact h2 k hk⟩
def bigB (n : Int) : Bool := outI n (-1000000000000) 1000000000000
set_option maxHeartbeats 400000 in
theorem parse2_any (n : Int) (w : World) : Calls Tryz.prog 34 #[.int .i64 n] w fun e w' => e = .returned (.bool (bigB n)) ∧ w = w' := by
  go_enter Tryz.func34, Tryz.ntmps34
  go_wp2_with (go_at_call 32; refine (out_any _ _ _ _).mono ?_; rintro e w' ⟨rfl, rfl⟩)
  go_ret; exact ⟨rfl, rfl⟩
/-- the first place from k on of a number that is too large -/
def bIdx (ns : List Int) : Nat → Nat → Int
  | 0, _ => -1
  | f + 1, k => if bigB (ns.getD k 0) then (k : Int) else bIdx ns f (k + 1)
theorem bIdx_any (ns : List Int) : ∀ (f k : Nat), k + f = ns.length → (0 ≤ bIdx ns f k ↔ (ns.drop k).any bigB = true) := by
  intro f
  induction f with
  | zero =>
    intro k hk
    rw [List.drop_eq_nil_of_le (by omega)]
    simp [bIdx]
  | succ f ih =>
    intro k hk
    have hlt : k < ns.length := by omega
    rw [List.drop_eq_getElem_cons hlt, List.any_cons]
    have e : ns.getD k 0 = ns[k] := by rw [List.getD_eq_getElem?_getD, List.getElem?_eq_getElem hlt]; rfl
    simp only [bIdx, e]
    cases hb : bigB ns[k] with
    | true => simp
    | false => simpa using ih (k + 1) (by omega)
set_option maxRecDepth 100000 in
set_option maxHeartbeats 800000 in
theorem index_big (v : Value) (ns : List Int) (w : World) (hv : RowI w v ns) (hn : ns.length ≤ 1000000) :
    Calls Tryz.prog 61 #[v, .func (.func 34) #[] #[]] w fun e w' => e = .returned (.int .i64 (bIdx ns ns.length 0)) ∧ Below w.heap.size w w' := by
  obtain ⟨a, c, rfl, hx⟩ := id hv
  clear hx
  have HV := Lib.hid hv
  clear hv
  go_enter Tryz.func61, Tryz.ntmps61
  go_wp2_with fail
  go_loopw [8] (fun i wr => ∃ k : Nat, k ≤ ns.length ∧ i = .int .i64 k ∧ Below w.heap.size w wr ∧ Hid (bIdx ns ns.length 0 = bIdx ns (ns.length - k) k)) (fun i _ => ns.length - (intOf i).toNat)
  case atStart => exact ⟨0, Nat.zero_le _, rfl, Below.refl _ _, rfl⟩
  case round =>
    obtain ⟨k, hk, rfl, hB, HI⟩ := hrel
    by_cases hlt : k < ns.length
    · obtain ⟨a', c', hac, h0 | ⟨b, off, rfl, hb, hc⟩⟩ := HV.out.below hB
      · omega
      · simp only [Value.slice.injEq] at hac
        obtain ⟨rfl, -, rfl⟩ := hac
        have s0 := hc k hlt
        have HS : Hid (bIdx ns (ns.length - k) k = if bigB (ns.getD k 0) then (k : Int) else bIdx ns (ns.length - (k + 1)) (k + 1)) := show _ = _ from by rw [show ns.length - k = (ns.length - (k + 1)) + 1 by omega]; rfl
        generalize ns.getD k 0 = x at *
        clear hc
        go_wp2_with fail
        refine (parse2_any _ _).mono ?_
        rintro e w2 ⟨rfl, rfl⟩
        go_wp2_with fail
        · go_ret
          exact ⟨ret_int (by rw [HI.out, HS.out, if_pos ‹_›]), (by repeat (first | exact Below.refl _ _ | assumption | refine balloc ?_ _ | refine below_trans ?_ (by assumption) | refine Below.drew ?_ | refine below_drewN ?_ _ | refine Below.setCell ?_ (by simp <;> omega) _))⟩
        · go_roundw
          case rel => exact ⟨k + 1, by omega, by go_num, (by repeat (first | exact Below.refl _ _ | assumption | refine balloc ?_ _ | refine below_trans ?_ (by assumption) | refine Below.drew ?_ | refine below_drewN ?_ _ | refine Below.setCell ?_ (by simp <;> omega) _)), by unfold Hid; rw [HI.out, HS.out, if_neg (by simp [*])]⟩
          case measure => simp [intOf]; omega
    · obtain rfl : k = ns.length := by omega
      go_wp2_with fail
      go_ret
      exact ⟨ret_int (by rw [HI.out, Nat.sub_self]; rfl), (by repeat (first | exact Below.refl _ _ | assumption | refine balloc ?_ _ | refine below_trans ?_ (by assumption) | refine Below.drew ?_ | refine below_drewN ?_ _ | refine Below.setCell ?_ (by simp <;> omega) _))⟩
set_option maxHeartbeats 400000 in
theorem contains_big (v : Value) (ns : List Int) (w : World) (hv : RowI w v ns) (hn : ns.length ≤ 1000000) :
    Calls Tryz.prog 33 #[v, .func (.func 34) #[] #[]] w fun e w' => e = .returned (.bool (ns.any bigB)) ∧ Below w.heap.size w w' := by
  have hk := bIdx_any ns ns.length 0 (by omega)
  have HK := Lib.hid hk
  have HV := Lib.hid hv
  clear hk hv
  go_enter Tryz.func33, Tryz.ntmps33
  go_wp2_with fail
  refine (index_big _ _ _ HV.out hn).mono ?_
  rintro e w2 ⟨rfl, hb2⟩
  go_wp2_with fail
  all_goals (go_ret; refine ⟨ret_bool ?_, (by repeat (first | exact Below.refl _ _ | assumption | refine balloc ?_ _ | refine below_trans ?_ (by assumption) | refine Below.drew ?_ | refine below_drewN ?_ _ | refine Below.setCell ?_ (by simp <;> omega) _))⟩)
  all_goals (have hq := HK.out; rw [List.drop_zero] at hq; rw [Bool.eq_iff_iff, ← hq]; simp)
end Go.Proofs.YtkjajpfgdjfcoaaGreatDoor
namespace Go.Proofs.YtkjajpfgdjfcoaaGreatDoor
open Go.RowKit
section
variable {P : Program} {ops : Array Oper} {Q : Exit → Act → World → Prop} {md : Region.Mode} {S S' : World → Prop}
/-- what is known of the world may be more than what was asked -/
theorem wpAnyH_weaken (hS : ∀ w, S' w → S w) : ∀ (fuel : Nat) (listed : Array Bool) (a : Act) (w : World), wpAnyH P md ops Q S' fuel listed a w → wpAnyH P md ops Q S fuel listed a w
  | 0, _, _, _, h => h
  | fuel + 1, _, _, _, h => ⟨h.1, fun i hi => wpOp_mono (fun a' w' h' => ⟨hS _ h'.1, wpAnyH_weaken hS fuel _ a' w' h'.2⟩) (h.2 i hi)⟩
end
/-- the region of a number in a function's code -/
def rgCode : Code → Nat → Option Code
  | .region i o d, n => if i = n then some (.region i o d) else none
  | .seq a b, n => match rgCode a n with
    | some c => some c
    | none => rgCode b n
  | .cond _ a b, n => match rgCode a n with
    | some c => some c
    | none => rgCode b n
  | .block _ a, n => rgCode a n
  | .loop a, n => rgCode a n
  | .scope a, n => rgCode a n
  | _, _ => none
def rgOf (f : Func) (n : Nat) : Code := match f.body with
  | some c => match rgCode c n with
    | some r => r
    | none => .skip
  | none => .skip
/-- what follows the region of a number in the sequence that it stands in -/
def tlCode : Code → Nat → Option Code
  | .seq (.region i _ _) b, n => if i = n then some b else tlCode b n
  | .seq a b, n => match tlCode a n with
    | some c => some c
    | none => tlCode b n
  | .cond _ a b, n => match tlCode a n with
    | some c => some c
    | none => tlCode b n
  | .block _ a, n => tlCode a n
  | .loop a, n => tlCode a n
  | .scope a, n => tlCode a n
  | _, _ => none
def tlOf (f : Func) (n : Nat) : Code := match f.body with
  | some c => match tlCode c n with
    | some r => r
    | none => .skip
  | none => .skip
/-- the first region of a piece of code -/
def headR : Code → Option Nat
  | .region i _ _ => some i
  | .seq a _ => headR a
  | _ => none
/-- the sequence that begins with the region of a number -/
def frCode : Code → Nat → Option Code
  | .seq a b, n => if headR a = some n then some (.seq a b) else match frCode a n with
    | some c => some c
    | none => frCode b n
  | .cond _ a b, n => match frCode a n with
    | some c => some c
    | none => frCode b n
  | .block _ a, n => frCode a n
  | .loop a, n => frCode a n
  | .scope a, n => frCode a n
  | _, _ => none
def frOf (f : Func) (n : Nat) : Code := match f.body with
  | some c => match frCode c n with
    | some r => r
    | none => .skip
  | none => .skip
/-- the second half of a sequence -/
def rsOf : Code → Code
  | .seq _ b => b
  | _ => .skip
theorem Tryz.info3 : (Tryz.prog.info? 3).map (fun i => (i.zero, i.size, i.bytes)) = some (some (.int .i64 0), 1, 8) := by kernel_rfl
def cellsAt (W : World) (b : Nat) (t : TypeId) (cs : Array Value) : Prop := W.heap[b]? = some (.cells cs t (0, 0))
theorem cellsAt.cell {W : World} {b : Nat} {t : TypeId} {cs : Array Value} (h : cellsAt W b t cs) (i : Nat) : W.cell? ⟨b, i, none⟩ = cs[i]? := by
  unfold cellsAt at h; simp [World.cell?, h]
theorem cellsAt.frozen {W : World} {b : Nat} {t : TypeId} {cs : Array Value} (h : cellsAt W b t cs) (i : Nat) : W.frozen? ⟨b, i, none⟩ = false := by
  unfold cellsAt at h; simp [World.frozen?, h]
theorem cellsAt.set {W : World} {b : Nat} {t : TypeId} {cs : Array Value} (h : cellsAt W b t cs) (i : Nat) (v : Value) : cellsAt (W.setCell ⟨b, i, none⟩ v) b t (cs.setIfInBounds i v) := by
  obtain ⟨hlt, hk⟩ := Array.getElem?_eq_some_iff.1 h
  show (W.heap.modify b _)[b]? = _
  rw [Array.getElem?_eq_getElem (by rw [Array.size_modify]; exact hlt), Array.getElem_modify_self, hk]
  rfl
theorem cellsAt.set_other {W : World} {b : Nat} {t : TypeId} {cs : Array Value} (h : cellsAt W b t cs) {p : Addr} (hp : p.block ≠ b) (v : Value) : cellsAt (W.setCell p v) b t cs :=
  (Below.heap_setCell W p v b (fun e => hp e.symm)).trans h
theorem cellsAt.lt {W : World} {b : Nat} {t : TypeId} {cs : Array Value} (h : cellsAt W b t cs) : b < W.heap.size := (Array.getElem?_eq_some_iff.1 h).1
theorem ne_some {a b : Nat} (h : a ≠ b) : some a ≠ some b := fun e => h (Option.some.inj e)
theorem cells4 {W : World} {b : Nat} {t : TypeId} {a0 a1 a2 a3 : Value} (h : cellsAt W b t #[a0, a1, a2, a3]) : W.cell? ⟨b, 0, none⟩ = some a0 ∧ W.cell? ⟨b, 1, none⟩ = some a1 ∧ W.cell? ⟨b, 2, none⟩ = some a2 ∧ W.cell? ⟨b, 3, none⟩ = some a3 :=
  ⟨h.cell 0, h.cell 1, h.cell 2, h.cell 3⟩
theorem cells3 {W : World} {b : Nat} {t : TypeId} {a0 a1 a2 : Value} (h : cellsAt W b t #[a0, a1, a2]) : W.cell? ⟨b, 0, none⟩ = some a0 ∧ W.cell? ⟨b, 1, none⟩ = some a1 ∧ W.cell? ⟨b, 2, none⟩ = some a2 :=
  ⟨h.cell 0, h.cell 1, h.cell 2⟩
theorem frz4 {W : World} {b : Nat} {t : TypeId} {cs : Array Value} (h : cellsAt W b t cs) : W.frozen? ⟨b, 0, none⟩ = false ∧ W.frozen? ⟨b, 1, none⟩ = false ∧ W.frozen? ⟨b, 2, none⟩ = false ∧ W.frozen? ⟨b, 3, none⟩ = false :=
  ⟨h.frozen 0, h.frozen 1, h.frozen 2, h.frozen 3⟩
/-- four cells stored anew -/
theorem set4 {W : World} {b : Nat} {t : TypeId} {a0 a1 a2 a3 : Value} (h : cellsAt W b t #[a0, a1, a2, a3]) (u0 u1 u2 u3 : Value) : cellsAt ((((W.setCell ⟨b, 0, none⟩ u0).setCell ⟨b, 1, none⟩ u1).setCell ⟨b, 2, none⟩ u2).setCell ⟨b, 3, none⟩ u3) b t #[u0, u1, u2, u3] := by
  have h4 := (((h.set 0 u0).set 1 u1).set 2 u2).set 3 u3
  simpa using h4
theorem set3 {W : World} {b : Nat} {t : TypeId} {a0 a1 a2 : Value} (h : cellsAt W b t #[a0, a1, a2]) (u0 u1 u2 : Value) : cellsAt (((W.setCell ⟨b, 0, none⟩ u0).setCell ⟨b, 1, none⟩ u1).setCell ⟨b, 2, none⟩ u2) b t #[u0, u1, u2] := by
  have h3 := ((h.set 0 u0).set 1 u1).set 2 u2
  simpa using h3
theorem set3_belowB {B : Nat} {w W : World} {b : Nat} (h : Below B w W) (hb : B ≤ b) (u0 u1 u2 : Value) : Below B w (((W.setCell ⟨b, 0, none⟩ u0).setCell ⟨b, 1, none⟩ u1).setCell ⟨b, 2, none⟩ u2) :=
  Below.setCell (Below.setCell (Below.setCell h hb _) hb _) hb _
theorem set4_below {w W : World} {b : Nat} (h : Below w.heap.size w W) (hb : w.heap.size ≤ b) (u0 u1 u2 u3 : Value) : Below w.heap.size w ((((W.setCell ⟨b, 0, none⟩ u0).setCell ⟨b, 1, none⟩ u1).setCell ⟨b, 2, none⟩ u2).setCell ⟨b, 3, none⟩ u3) :=
  Below.setCell (Below.setCell (Below.setCell (Below.setCell h hb _) hb _) hb _) hb _
theorem cellsAt.below {W W' : World} {b : Nat} {t : TypeId} {cs : Array Value} (h : cellsAt W b t cs) (hb : Below W.heap.size W W') : cellsAt W' b t cs := (hb.block b h.lt).trans h
theorem cells_grown {W W' : World} {b : Nat} {t : TypeId} {cs : Array Value} {v : Value} (h : cellsAt W b t cs) (hg : W.grownBy W' v.ownBlock) (hn : ∀ g, v.ownBlock = some g → g ≠ b) : cellsAt W' b t cs :=
  (hg.block b h.lt (fun e => hn b e.symm rfl)).trans h
theorem rows_ne {w : World} {B b n size : Nat} {e : TypeId} {v : Value} {xs : List Value} (h : w.ownsRow B e size v n xs) (hb : b < B) : ∀ g, v.ownBlock = some g → g ≠ b := fun g hg => by have := (World.ownsRow.lt h g hg).1; omega
theorem ownsRow_below {w w' : World} {b : Nat} {e : TypeId} {size : Nat} {v : Value} {n : Nat} {xs : List Value} (h : w.ownsRow b e size v n xs) (hb : Below w.heap.size w w') : w'.ownsRow b e size v n xs := by
  obtain ⟨h1, h2 | ⟨g, cap, cur, h3, h4, h5, h6⟩⟩ := h
  · exact ⟨h1, .inl h2⟩
  · refine ⟨h1, .inr ⟨g, cap, cur, h3, h4, ?_, h6⟩⟩
    rw [hb.block g (Array.getElem?_eq_some_iff.1 h5).1]; exact h5
theorem grow_below {w w' W : World} {row : Value} (h : Below W.heap.size W w) (hg : w.grownBy w' row.ownBlock) (hr : ∀ g, row.ownBlock = some g → W.heap.size ≤ g) : Below W.heap.size W w' := h.grown hg h.size hr
/-- a row of words in memory -/
structure WRow (w : World) (g off : Nat) (ws : List (List UInt8)) : Prop where
  hg : g < w.heap.size
  cell : ∀ j, j < ws.length → w.cell? ⟨g, off + j, none⟩ = some (.string ⟨(ws.getD j []).toArray⟩)
theorem WRow.below {w w' : World} {g off : Nat} {ws : List (List UInt8)} (h : WRow w g off ws) (hb : Below w.heap.size w w') : WRow w' g off ws :=
  ⟨Nat.lt_of_lt_of_le h.hg hb.size, fun j hj => by rw [hb.cell (p := ⟨g, off + j, none⟩) h.hg]; exact h.cell j hj⟩
theorem WRow.tail {w : World} {g off : Nat} {a : List UInt8} {ws : List (List UInt8)} (h : WRow w g off (a :: ws)) : WRow w g (off + 1) ws :=
  ⟨h.hg, fun j hj => by have := h.cell (j + 1) (by simp; omega); rw [show off + 1 + j = off + (j + 1) by omega]; simpa using this⟩
theorem WRow.set {w : World} {g off : Nat} {ws : List (List UInt8)} (h : WRow w g off ws) {p : Addr} (hp : p.block ≠ g) (u : Value) : WRow (w.setCell p u) g off ws :=
  ⟨by have := h.hg; simpa [World.setCell] using this, fun j hj => by
    have h2 := h.cell j hj
    have hk := Below.heap_setCell w p u g (fun e => hp e.symm)
    unfold World.cell? at h2 ⊢
    simp only [hk]
    exact h2⟩
theorem WRow.grown {w w' : World} {g off : Nat} {ws : List (List UInt8)} {v : Value} (h : WRow w g off ws) (hg : w.grownBy w' v.ownBlock) (hn : ∀ x, v.ownBlock = some x → x ≠ g) : WRow w' g off ws :=
  ⟨Nat.lt_of_lt_of_le h.hg hg.size, fun j hj => hg.cell (h.cell j hj) (fun e => hn g e.symm rfl)⟩
theorem rowI_of_own {w : World} {B : Nat} {v : Value} {l : List Int} (h : w.ownsRow B 3 1 v l.length (l.map (Value.int .i64))) : RowI w v l := by
  obtain ⟨h1, ⟨e, h2⟩ | ⟨g, cap, cur, rfl, h4, h5, h6, h7, h8, h9⟩⟩ := h
  · exact ⟨none, 0, by rw [e, h2], .inl h2⟩
  · refine ⟨_, cap, rfl, .inr ⟨g, 0, rfl, (Array.getElem?_eq_some_iff.1 h5).1, fun i hi => ?_⟩⟩
    have hg : (l.map (Value.int .i64))[i]? = some (.int .i64 (l.getD i 0)) := by simp [hi]
    rw [← h9, List.getElem?_take_of_lt (by omega)] at hg
    unfold World.cell?
    rw [Nat.zero_add, h5]
    simpa using hg
/-- a row of words that was made -/
theorem wrow_of_own {w : World} {B : Nat} {v : Value} {l : List (List UInt8)} (h : w.ownsRow B 9 1 v l.length (l.map fun x => Value.string ⟨x.toArray⟩)) (hn : l ≠ []) :
    ∃ g cap, v = .slice (some ⟨g, 0, none⟩) l.length cap ∧ B ≤ g ∧ l.length ≤ cap ∧ cap ≤ maxLen ∧ WRow w g 0 l := by
  obtain ⟨h1, ⟨e, h2⟩ | ⟨g, cap, cur, rfl, h4, h5, h6, h7, h8, h9⟩⟩ := h
  · exact absurd (List.length_eq_zero_iff.1 h2) hn
  · refine ⟨g, cap, rfl, h4, h6, h7, (Array.getElem?_eq_some_iff.1 h5).1, fun i hi => ?_⟩
    have hg : (l.map fun x => Value.string ⟨x.toArray⟩)[i]? = some (.string ⟨(l.getD i []).toArray⟩) := by simp [hi]
    rw [← h9, List.getElem?_take_of_lt (by omega)] at hg
    unfold World.cell?
    rw [Nat.zero_add, h5]
    simpa using hg
theorem mapM_snoc {α β : Type} (f : α → Option β) : ∀ (l : List α) (a : α), (l ++ [a]).mapM f = match l.mapM f with | none => none | some r => match f a with | none => none | some b => some (r ++ [b])
  | [], a => by
    show List.mapM f [a] = _
    rw [List.mapM_cons]
    cases h : f a <;> simp [h]
  | x :: l, a => by
    rw [List.cons_append, List.mapM_cons, List.mapM_cons, mapM_snoc f l a]
    cases f x with
    | none => rfl
    | some b => cases l.mapM f with
      | none => rfl
      | some r => cases f a <;> rfl
theorem mapM_none {α β : Type} {f : α → Option β} : ∀ {l : List α} {a : α}, a ∈ l → f a = none → l.mapM f = none
  | x :: l, a, h, hf => by
    rw [List.mapM_cons]
    rcases List.mem_cons.1 h with rfl | h
    · rw [hf]; rfl
    · cases f x with
      | none => rfl
      | some b => rw [mapM_none h hf]; rfl
theorem getD_mem {α : Type} {l : List α} {j : Nat} {d : α} (h : j < l.length) : l.getD j d ∈ l := by
  rw [List.getD_eq_getElem?_getD, List.getElem?_eq_getElem h]; exact List.getElem_mem h
theorem take_snoc_getD {α : Type} {l : List α} {j : Nat} (d : α) (h : j < l.length) : l.take (j + 1) = l.take j ++ [l.getD j d] := by
  rw [List.take_succ_eq_append_getElem h, List.getD_eq_getElem?_getD, List.getElem?_eq_getElem h]; rfl
end Go.Proofs.YtkjajpfgdjfcoaaGreatDoor
