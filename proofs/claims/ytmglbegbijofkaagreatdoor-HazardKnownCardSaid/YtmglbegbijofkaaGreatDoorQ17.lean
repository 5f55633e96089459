import Derived.Test.YtmglbegbijofkaaGreatDoorChecked
import Derived.Test.YtmglbegbijofkaaGreatDoorQ15
import Derived.Shelf.SlIter.Collect
import Derived.RangeFuncNested
import Derived.RangeFuncBound
import Derived.RangeFuncCalls
import Derived.RangeFuncLeaves
import Derived.Shelf.Abstract
import Derived.WalkKit
import Derived.OwnWalkIn
import Derived.TacticsInMore
import Derived.LoopNIn
import Derived.LoopIn
import Derived.Maps.AppendAt
import Derived.Lib.Hide
import Derived.Deep.QuietTactic
import Derived.WalkSpells
import Derived.WalkLawsBesides
import Derived.Outline
set_option linter.unusedVariables false
set_option linter.unusedSimpArgs false
namespace Go.Proofs.YtmglbegbijofkaaGreatDoor
open Go.RowKit Go.Maps Go.Sort Go.Shelf

theorem Tryz.info9 : (Tryz.prog.info? 9).map (fun i => (i.zero, i.size, i.bytes)) = some (some (.string ⟨#[]⟩), 1, 16) := by kernel_rfl
def apAssign : Code := (Code.region 2 #[{ dst := some 5, op := Op.assign (Operand.tmp 7), type := 9, pos := "iter.go:51", after := #[], guard := none }] false)
def apBody : Code := (Code.block 1 (Code.region 3 #[{ dst := some 8, op := Op.load 109 (Operand.tmp 2), type := 109, pos := "iter.go:52", after := #[], guard := none }, { dst := some 9, op := Op.move (Operand.tmp 5), type := 9, pos := "iter.go:52", after := #[], guard := none }, { dst := some 10, op := Op.buildSlice 109 1 #[(0, Operand.tmp 9)], type := 109, pos := "iter.go:52", after := #[{ on := 1, ground := Ground.data }], guard := none }, { dst := some 11, op := Op.call { callee := Callee.builtin Builtin.append, args := #[Operand.tmp 8, Operand.tmp 10], argTypes := #[109, 109] }, type := 109, pos := "iter.go:52", after := #[{ on := 0, ground := Ground.data }, { on := 2, ground := Ground.data }], guard := none }, { dst := none, op := Op.store 109 (Operand.tmp 2) (Operand.tmp 11), type := 0, pos := "iter.go:52", after := #[{ on := 3, ground := Ground.data }, { on := 3, ground := Ground.chain }, { on := 0, ground := Ground.phase }, { on := 1, ground := Ground.phase }, { on := 2, ground := Ground.phase }, { on := 3, ground := Ground.phase }], guard := none }] false))
def apRec (fn : FuncId) (sv : Value) (Bs D : Nat) (st : LoopState) (pend : Option Code) : Loop :=
  { state := st, pending := pend, fn, tmps := #[.slice none 0 0, sv, .pointer (some ⟨Bs, 0, none⟩), undef, .slice none 0 0, undef, sv, undef, undef, undef, undef, undef, undef], params := #[7], assign := apAssign, body := apBody, defers := D }
/-- between two rounds: the caller's box has what has come; the iterator's own box (block Ns) has what is left -/
structure ApAt (w0 : World) (Ns : Nat) (fn : FuncId) (sv : Value) (Bs l D : Nat) (ss : List (List UInt8)) (r : List UInt8) (W : World) : Prop where
  box : ∃ v, W.heap[Bs]? = some (.cells #[v] 109 (0, 0)) ∧ W.ownsRow (Ns + 1) 9 1 v ss.length (ss.map encStr)
  L : W.heap[l]? = some (.loop (apRec fn sv Bs D .ready none))
  K : W.heap[D]? = some (.deferred (some []))
  S : W.heap[Ns]? = some (.cells #[.string ⟨r.toArray⟩] 9 (0, 0))
  below : Below Ns w0 W
theorem ApAt.drewN {w0 : World} {Ns : Nat} {fn : FuncId} {sv : Value} {Bs l D : Nat} {ss : List (List UInt8)} {r : List UInt8} {W : World} (h : ApAt w0 Ns fn sv Bs l D ss r W) (q : Nat) : ApAt w0 Ns fn sv Bs l D ss r (W.drewN q) :=
  ⟨h.box, h.L, h.K, h.S, ⟨h.below.os, h.below.tape, h.below.output, h.below.size, h.below.block⟩⟩

set_option maxRecDepth 100000 in
set_option maxHeartbeats 2000000 in
theorem apYield (m : Nat) (w0 : World) (Ns : Nat) (fn : FuncId) (sv : Value) (Bs l D : Nat) (hBl : Bs ≠ l) (hDl : D ≠ l) (hDB : D ≠ Bs) (h0B : Ns < Bs) (h0l : Ns < l) (h0D : Ns < D)
    (N : Nat) (hN : N ≤ maxLen) (hNb : N * 16 ≤ 140737488355328) (ss : List (List UInt8)) (r x : List UInt8) (W : World) (h : ApAt w0 Ns fn sv Bs l D ss r W) (hlen : ss.length < N) :
    YieldAt Fence.wide m Tryz.prog l #[encStr x] W fun e W' => e = .returned (.bool true) ∧ ApAt w0 Ns fn sv Bs l D (ss ++ [x]) r W' := by
  obtain ⟨i0, hi, hz0, hz1, hz2⟩ := info_parts Tryz.info9
  obtain ⟨v, hv, hrow⟩ := h.box
  refine ⟨fn, #[.slice none 0 0, sv, .pointer (some ⟨Bs, 0, none⟩), undef, .slice none 0 0, undef, sv, encStr x, undef, undef, undef, undef, undef], apAssign, apBody, by simpa [apRec] using run_yield (P := Tryz.prog) (args := #[encStr x]) h.L rfl, roundIn_of_wpIn trivial ?_⟩
  have hl : l < W.heap.size := (Array.getElem?_eq_some_iff.1 h.L).1
  have hbr := run_beginRound (P := Tryz.prog) h.L rfl
  obtain ⟨W2, hW2⟩ : ∃ W2, W.putObj l (.loop { apRec fn sv Bs D .ready none with state := .busy }) = W2 := ⟨_, rfl⟩
  rw [hW2] at hbr
  have hg2 : W.grownBy W2 (some l) := by rw [← hW2]; exact grownBy_putObj_a _ _ _
  have hv2 : W2.heap[Bs]? = some (.cells #[v] 109 (0, 0)) := by rw [← hW2]; exact (World.putObj_heap_other hBl).trans hv
  have hK2 : W2.heap[D]? = some (.deferred (some [])) := by rw [← hW2]; exact (World.putObj_heap_other hDl).trans h.K
  have hS2 : W2.heap[Ns]? = some (.cells #[.string ⟨r.toArray⟩] 9 (0, 0)) := by rw [← hW2]; exact (World.putObj_heap_other (by omega)).trans h.S
  have hL2 : W2.heap[l]? = some (.loop { apRec fn sv Bs D .ready none with state := .busy }) := by rw [← hW2]; exact World.putObj_heap_same hl
  have hrow2 : W2.ownsRow (Ns + 1) 9 1 v ss.length (ss.map encStr) := hrow.kept hg2 (ownsRow_ne_a hrow h.L (fun cur e => by cases e))
  have hsz2 : W.heap.size ≤ W2.heap.size := hg2.size
  have hb2 : Below Ns w0 W2 := h.below.grown hg2 (by omega) (fun k e => by cases e; omega)
  obtain ⟨hc2, hf2⟩ := cell_of_box_a hv2
  have hBlt : Bs < W2.heap.size := (Array.getElem?_eq_some_iff.1 hv2).1
  have hl2 : l < W2.heap.size := (Array.getElem?_eq_some_iff.1 hL2).1
  have hDlt : D < W2.heap.size := (Array.getElem?_eq_some_iff.1 hK2).1
  have ne_of : ∀ {j : Nat} {o : Obj}, W2.heap[j]? = some o → (∀ cur, o ≠ .cells cur 9 (0, 0)) → some j ≠ v.ownBlock := fun hj hno => by
    rcases ownsRow_ne_a hrow2 hj hno with e | e
    · rw [e]; simp
    · exact fun e' => e e'.symm
  have neS : some Ns ≠ v.ownBlock := fun e => by have := (hrow2.lt Ns e.symm).1; omega
  clear hW2
  unfold apAssign
  gi_wp2_with gi_round_op_a
  unfold apBody
  gi_wp2_with (first
    | (gi_at_builtin; refine wpListIn_append_own _ rfl _ _ 109 rfl (Ns + 1) 9 i0 (.string ⟨#[]⟩) 1 16 Tryz.underlying109 hi hz0 hz1 hz2 rfl (by decide) _ _ _ rfl (hrow2.alloc _) ⟨W2.heap.size, 0, none⟩ 1 1 [encStr x] rfl rfl (cell_one_new _ _ _) (by simp [Value.oneCell', encStr]) (by omega) (by omega) (by simp; omega) ?_; intro v' w3 hown' hg3 hnil3
       have hv3 : w3.heap[Bs]? = some (.cells #[v] 109 (0, 0)) := (hg3.block Bs (by simp; omega) (ne_of hv2 (fun cur e => by cases e))).trans ((Below.heap_alloc _ _ Bs hBlt).trans hv2)
       obtain ⟨hc3, hf3⟩ := cell_of_box_a hv3
       obtain ⟨g', cap', cur', rfl, hbase', hgb', hr1, hr2, hr3, hr4⟩ : ∃ g' cap' cur', v' = .slice (some ⟨g', 0, none⟩) (ss.length + 1) cap' ∧ Ns + 1 ≤ g' ∧ w3.heap[g']? = some (.cells cur' 9 (0, 0)) ∧ ss.length + 1 ≤ cap' ∧ cap' ≤ maxLen ∧ cur'.size = cap' * 1 ∧ cur'.toList.take ((ss.length + 1) * 1) = ss.map encStr ++ [encStr x] := by
         rcases hown'.2 with ⟨_, h0⟩ | h'
         · exact absurd h0 (by omega)
         · exact h'
       go_frame)
    | gi_round_op_a)
  have hg3' : (W2.alloc (.cells #[encStr x] 9)).grownBy w3 v.ownBlock := hg3
  have hL3 : w3.heap[l]? = some (.loop { apRec fn sv Bs D .ready none with state := .busy }) := (hg3'.block l (by simp; omega) (ne_of hL2 (fun cur e => by cases e))).trans ((Below.heap_alloc _ _ l hl2).trans hL2)
  have hK3 : w3.heap[D]? = some (.deferred (some [])) := (hg3'.block D (by simp; omega) (ne_of hK2 (fun cur e => by cases e))).trans ((Below.heap_alloc _ _ D hDlt).trans hK2)
  have hS3 : w3.heap[Ns]? = some (.cells #[.string ⟨r.toArray⟩] 9 (0, 0)) := (hg3'.block Ns (by simp; omega) neS).trans ((Below.heap_alloc _ _ Ns (by omega)).trans hS2)
  obtain ⟨w4, hw4⟩ : ∃ w4, w3.setCell ⟨Bs, 0, none⟩ (.slice (some ⟨g', 0, none⟩) (ss.length + 1) cap') = w4 := ⟨_, rfl⟩
  rw [hw4]
  have hg4 : w3.grownBy w4 (some Bs) := by rw [← hw4]; exact grownBy_setCell0_a _ _ _
  have hv4 : w4.heap[Bs]? = some (.cells #[.slice (some ⟨g', 0, none⟩) (ss.length + 1) cap'] 109 (0, 0)) := by rw [← hw4]; exact heap_setCell_box_a _ hv3
  have hL4 : w4.heap[l]? = some (.loop { apRec fn sv Bs D .ready none with state := .busy }) := (hg4.block l (Array.getElem?_eq_some_iff.1 hL3).1 (fun e => hBl (by cases e; rfl))).trans hL3
  have hK4 : w4.heap[D]? = some (.deferred (some [])) := (hg4.block D (Array.getElem?_eq_some_iff.1 hK3).1 (fun e => hDB (by cases e; rfl))).trans hK3
  have hS4 : w4.heap[Ns]? = some (.cells #[.string ⟨r.toArray⟩] 9 (0, 0)) := (hg4.block Ns (Array.getElem?_eq_some_iff.1 hS3).1 (fun e => by cases e; omega)).trans hS3
  have hrow4 := hown'.kept hg4 (ownsRow_ne_a hown' hv3 (fun cur e => by cases e))
  have hl4 : l < w4.heap.size := (Array.getElem?_eq_some_iff.1 hL4).1
  have hl3 : l < w3.heap.size := (Array.getElem?_eq_some_iff.1 hL3).1
  have hb3 : Below Ns w0 w3 := (hb2.alloc (by omega) _).grown hg3' (by simp; omega) (fun k e => by have := (hrow2.lt k e).1; omega)
  have hb4 : Below Ns w0 w4 := hb3.grown hg4 (by omega) (fun k e => by cases e; omega)
  clear hw4
  refine ⟨_, _, run_endRound none hL4, rfl, ⟨⟨_, (World.putObj_heap_other hBl).trans hv4, ?_⟩, World.putObj_heap_same hl4, (World.putObj_heap_other hDl).trans hK4, (World.putObj_heap_other (by omega)).trans hS4, hb4.grown (grownBy_putObj_a _ _ _) (by omega) (fun k e => by cases e; omega)⟩⟩
  have := hrow4.kept (grownBy_putObj_a w4 l (.loop { { apRec fn sv Bs D .ready none with state := .busy } with state := if (none : Option Code).isNone then .ready else .done, pending := none })) (ownsRow_ne_a hrow4 hL4 (fun cur e => by cases e))
  simpa using this

theorem ApAt.set {w0 : World} {Ns : Nat} {fn : FuncId} {sv : Value} {Bs l D : Nat} {ss : List (List UInt8)} {r : List UInt8} {W : World} (h : ApAt w0 Ns fn sv Bs l D ss r W) (h0B : Ns < Bs) (h0l : Ns < l) (h0D : Ns < D) (q : List UInt8) :
    ApAt w0 Ns fn sv Bs l D ss q (W.setCell ⟨Ns, 0, none⟩ (.string ⟨q.toArray⟩)) := by
  have hg := grownBy_setCell0_a W Ns (.string ⟨q.toArray⟩)
  obtain ⟨v, hv, hrow⟩ := h.box
  have ne : ∀ {j : Nat}, Ns < j → some j ≠ some Ns := fun hj e => by cases e; omega
  refine ⟨⟨v, (hg.block Bs (Array.getElem?_eq_some_iff.1 hv).1 (ne h0B)).trans hv, hrow.kept hg (.inr fun e => ?_)⟩, (hg.block l (Array.getElem?_eq_some_iff.1 h.L).1 (ne h0l)).trans h.L, (hg.block D (Array.getElem?_eq_some_iff.1 h.K).1 (ne h0D)).trans h.K, heap_setCell_box_a _ h.S, h.below.grown hg (Nat.le_of_lt (Array.getElem?_eq_some_iff.1 h.S).1) (fun k e => by cases e; exact Nat.le_refl _)⟩
  have := (hrow.lt Ns e).1
  omega
/-- strings.Cut at one space, as the walk of the iterator asks it -/
def CutSp : Prop := ∀ (r : List UInt8) (W : World), r.length < 4294967296000000 → Calls Tryz.prog 137 #[.string ⟨r.toArray⟩, .string ⟨#[32]⟩] W fun e w' => e = .returned (.tuple #[.string ⟨(Lib.cut r [32]).1.toArray⟩, .string ⟨(Lib.cut r [32]).2.1.toArray⟩, .bool (Lib.cut r [32]).2.2]) ∧ ∃ n, w' = W.drewN n
/-- how long what is left is -/
def strLeft (Ns : Nat) (w : World) : Nat := match w.cell? ⟨Ns, 0, none⟩ with
  | some (.string b) => b.size
  | _ => 0
theorem strLeft_of {Ns : Nat} {w : World} {r : List UInt8} (h : w.cell? ⟨Ns, 0, none⟩ = some (.string ⟨r.toArray⟩)) : strLeft Ns w = r.length := by
  unfold strLeft; rw [h]; rfl

set_option maxRecDepth 100000 in
set_option maxHeartbeats 2000000 in
/-- the iterator of words, against AppendSeq's round -/
theorem words1_in (hcut : CutSp) (n : Nat) (hn : 1 ≤ n) (w0 : World) (Ns : Nat) (fn : FuncId) (sv : Value) (Bs l D : Nat) (hBl : Bs ≠ l) (hDl : D ≠ l) (hDB : D ≠ Bs) (h0B : Ns < Bs) (h0l : Ns < l) (h0D : Ns < D)
    (s : List UInt8) (hs : s.length ≤ 8796093022000) (W : World) (h : ApAt w0 Ns fn sv Bs l D [] s W) :
    CallsIn Fence.wide n Tryz.prog 136 #[.func (.yield l) #[] #[], .pointer (some ⟨Ns, 0, none⟩)] W fun e W' => (∃ v, e = .returned v) ∧ ∃ r, ApAt w0 Ns fn sv Bs l D (wordsL s) r W' := by
  have hwl := wordsL_len s
  refine callsIn_of_wp Tryz.func136 rfl trivial ?_ rfl
  simp only [Tryz.ntmps136, List.size_toArray, List.length_cons, List.length_nil, Nat.reduceAdd, Nat.reduceSub, Array.replicate_succ, Array.replicate_zero, List.push_toArray, List.append_toArray, List.nil_append, List.cons_append]
  gi_wp2
  gi_loopw [3] (fun _ wr => ∃ (ss : List (List UInt8)) (r : List UInt8), Hid (wordsL s = ss ++ wordsL r) ∧ r.length ≤ 8796093022000 ∧ ApAt w0 Ns fn sv Bs l D ss r wr)
    (fun _ wr => strLeft Ns wr)
  case atStart => exact ⟨[], s, show _ = _ from rfl, hs, h⟩
  case round =>
    obtain ⟨ss, r, HW, hr, hA⟩ := hrel
    have HC := Lib.hid (wordsL_cut r)
    have HL := Lib.hid (cut_len r)
    have hc0 := fun W => (callsIn_wide (n := n - 1)).2 (hcut r W (by omega))
    have HC0 := Lib.hid hc0
    clear hc0
    have hlen : ss.length + 1 ≤ (wordsL s).length := by
      rw [HW.out, HC.out]; simp
    obtain ⟨hSc, hSf⟩ := cell_of_box_a hA.S
    have hleft := strLeft_of hSc
    have HLF := Lib.hid hleft
    clear hleft
    generalize Lib.cut r [32] = q at *
    obtain ⟨qa, qb, qm⟩ := q
    simp only at HC HL
    gi_wp2
    refine ⟨trivial, (HC0.out _).mono ?_⟩
    rintro e w' ⟨rfl, q, rfl⟩
    have hA1 := hA.drewN q
    obtain ⟨fn', tmps, assign, body, hy, hR⟩ := apYield (n - 1) w0 Ns fn sv Bs l D hBl hDl hDB h0B h0l h0D (wordsL s).length (by unfold maxLen; omega) (by omega) ss r qa _ hA1 (by omega)
    have HR := Lib.hid hR
    clear hR
    simp only [encStr] at hy
    clear hA hA1 hSc hSf
    gi_wp2
    refine HR.out.mono ?_
    rintro e W3 ⟨rfl, hA3⟩
    obtain ⟨hSc, hSf⟩ := cell_of_box_a hA3.S
    cases qm
    · gi_wp2
      refine bodyPost_ret (results_none rfl _ _ _) rfl ?_
      refine ⟨⟨_, rfl⟩, r, ?_⟩
      rw [HW.out, HC.out]
      simpa using hA3
    · have hqb : qb.length < r.length := HL.out rfl
      have hA4 := hA3.set h0B h0l h0D qb
      have HS4 := Lib.hid (strLeft_of (cell_of_box_a hA4.S).1)
      gi_wp2
      go_roundw
      case rel => exact ⟨ss ++ [qa], qb, by unfold Hid; rw [HW.out, HC.out]; simp, by omega, hA4⟩
      case measure => rw [HS4.out, HLF.out]; exact hqb

set_option maxRecDepth 100000 in
set_option maxHeartbeats 2000000 in
/-- slices.AppendSeq of the words -/
theorem appendSeq_words (hcut : CutSp) (n : Nat) (hn : 2 ≤ n) (Ns : Nat) (s : List UInt8) (hs : s.length ≤ 8796093022000) (w : World) (hS : w.heap[Ns]? = some (.cells #[.string ⟨s.toArray⟩] 9 (0, 0))) :
    CallsIn Fence.wide n Tryz.prog 135 #[.slice none 0 0, .func (.func 136) #[] #[.pointer (some ⟨Ns, 0, none⟩)]] w fun e w' => ∃ v : Value, e = .returned v ∧ w'.ownsRow (Ns + 1) 9 1 v (wordsL s).length ((wordsL s).map encStr) ∧ Below Ns w w' := by
  have h1 : 1 ≤ n := by omega
  have hNs : Ns < w.heap.size := (Array.getElem?_eq_some_iff.1 hS).1
  have eg : ∀ args w, (callFunc 136 args).run Tryz.prog w = .ok (.enter 136 args) w := enters_of Tryz.func136 (by kernel_rfl) rfl
  refine callsIn_of_wp_marks Tryz.func135 rfl trivial ?_ rfl
  simp only [Tryz.ntmps135, List.size_toArray, List.length_cons, List.length_nil, Nat.reduceAdd, Nat.reduceSub, Array.replicate_succ, Array.replicate_zero, List.push_toArray, List.append_toArray, List.nil_append, List.cons_append]
  gi_wp2
  refine wpIn_rangeFunc ?_
  intro fn hfn
  rw [show Fence.wide.round = none from rfl]
  obtain ⟨W0, hW0⟩ : ∃ W0, w.alloc (.cells #[.slice none 0 0] 109) = W0 := ⟨_, rfl⟩
  have hs0 : W0.heap.size = w.heap.size + 1 := by rw [← hW0]; simp
  have hv0 : W0.heap[w.heap.size]? = some (.cells #[.slice none 0 0] 109 (0, 0)) := by rw [← hW0]; exact World.alloc_heap_new w _
  have hS0 : W0.heap[Ns]? = some (.cells #[.string ⟨s.toArray⟩] 9 (0, 0)) := by rw [← hW0]; exact (Below.heap_alloc _ _ Ns hNs).trans hS
  have hb0 : Below Ns w W0 := by rw [← hW0]; exact (Below.refl _ w).alloc (Nat.le_of_lt hNs) _
  rw [hW0]
  obtain ⟨W1, hW1⟩ : ∃ W1, (W0.alloc (.deferred (some []))).alloc (.loop (apRec fn (.func (.func 136) #[] #[.pointer (some ⟨Ns, 0, none⟩)]) w.heap.size W0.heap.size .ready none)) = W1 := ⟨_, rfl⟩
  have hold : ∀ k, k < W0.heap.size → W1.heap[k]? = W0.heap[k]? := fun k hk => by
    rw [← hW1]; exact (Below.heap_alloc _ _ k (by simp; omega)).trans (Below.heap_alloc _ _ k hk)
  have hb1 : Below Ns w W1 := by rw [← hW1]; exact (hb0.alloc (by omega) _).alloc (by simp; omega) _
  have hs1 : W1.heap.size = W0.heap.size + 2 := by rw [← hW1]; simp
  have hM : ApAt w Ns fn (.func (.func 136) #[] #[.pointer (some ⟨Ns, 0, none⟩)]) w.heap.size (W0.heap.size + 1) W0.heap.size [] s W1 :=
    ⟨⟨_, (hold w.heap.size (by omega)).trans hv0, ⟨rfl, .inl ⟨rfl, rfl⟩⟩⟩,
     by rw [← hW1]; have := World.alloc_heap_new (W0.alloc (.deferred (some []))) (.loop (apRec fn (.func (.func 136) #[] #[.pointer (some ⟨Ns, 0, none⟩)]) w.heap.size W0.heap.size .ready none)); rwa [World.size_alloc] at this,
     by rw [← hW1]; exact (Below.heap_alloc _ _ _ (by simp)).trans (World.alloc_heap_new W0 _), (hold Ns (by omega)).trans hS0, hb1⟩
  refine ⟨W0.heap.size + 1, [{ target := .collected W0.heap.size, args := #[] }], W1, { target := .fn (.func 136) #[.pointer (some ⟨Ns, 0, none⟩)], args := #[.func (.yield (W0.heap.size + 1)) #[] #[]] }, W1, 136,
    #[.func (.yield (W0.heap.size + 1)) #[] #[]] ++ #[.pointer (some ⟨Ns, 0, none⟩)], W1, ?_, ?_, ?_, ?_, fun _ => h1, ?_⟩
  · rw [← hW1]; exact run_enterLoop_outer _ _ _ _ _
  · simp [resolve, go_sem]
  · intro f' hf'; trivial
  · simp [invoke, go_sem, eg]
  · refine (words1_in hcut (n - 1) (by omega) w Ns fn _ w.heap.size (W0.heap.size + 1) W0.heap.size (by omega) (by omega) (by omega) (by omega) (by omega) (by omega) s hs W1 hM).mono ?_
    rintro e W2 ⟨⟨v0, rfl⟩, r, h2⟩
    obtain ⟨v, hv, hrow⟩ := h2.box
    have hlt2 : W0.heap.size + 1 < W2.heap.size := (Array.getElem?_eq_some_iff.1 h2.L).1
    have hend := run_endLoop (P := Tryz.prog) h2.L (by simp [apRec])
    obtain ⟨W3, hW3⟩ : ∃ W3, W2.putObj (W0.heap.size + 1) (.loop { apRec fn (.func (.func 136) #[] #[.pointer (some ⟨Ns, 0, none⟩)]) w.heap.size W0.heap.size .ready none with state := .exhausted }) = W3 := ⟨_, rfl⟩
    rw [hW3] at hend
    have hg3 : W2.grownBy W3 (some (W0.heap.size + 1)) := by rw [← hW3]; exact grownBy_putObj_a _ _ _
    have hv3 : W3.heap[w.heap.size]? = some (.cells #[v] 109 (0, 0)) := by rw [← hW3]; exact (World.putObj_heap_other (by omega)).trans hv
    have hK3 : W3.heap[W0.heap.size]? = some (.deferred (some [])) := by rw [← hW3]; exact (World.putObj_heap_other (by omega)).trans h2.K
    have hrow3 := hrow.kept hg3 (ownsRow_ne_a hrow h2.L (fun cur e => by cases e))
    have hz3 := hg3.size
    have hb3 : Below Ns w W3 := h2.below.grown hg3 (by omega) (fun k e => by cases e; omega)
    obtain ⟨hc3, hf3⟩ := cell_of_box_a hv3
    clear hW3
    refine ⟨none, W3, hend, ?_⟩
    gi_wp2
    rw [← hs0]
    refine ⟨by simp, .inl ⟨_, _, rfl, run_takeDeferred hK3, ?_⟩⟩
    exact ⟨_, results_tmp rfl _ _ _, v, rfl, hrow3.kept (grownBy_putObj_a _ _ _) (ownsRow_ne_a hrow3 hK3 (fun cur e => by cases e)), hb3.grown (grownBy_putObj_a _ _ _) (by omega) (fun k e => by cases e; omega)⟩

set_option maxHeartbeats 1000000 in
/-- slices.Collect of the words -/
theorem collect_words (hcut : CutSp) (Ns : Nat) (s : List UInt8) (hs : s.length ≤ 8796093022000) (w : World) (hS : w.heap[Ns]? = some (.cells #[.string ⟨s.toArray⟩] 9 (0, 0))) :
    Calls Tryz.prog 74 #[.func (.func 136) #[] #[.pointer (some ⟨Ns, 0, none⟩)]] w fun e w' => ∃ v : Value, e = .returned v ∧ w'.ownsRow (Ns + 1) 9 1 v (wordsL s).length ((wordsL s).map encStr) ∧ Below Ns w w' := by
  have hA := (callsIn_wide (n := 2)).1 (appendSeq_words hcut 2 (Nat.le_refl _) Ns s hs w hS)
  have HA := Lib.hid hA
  clear hA hS
  go_enter Tryz.func74, Tryz.ntmps74
  go_wp2_with (go_at_call 135; refine HA.out.mono ?_; rintro e w' ⟨v, rfl, hrow, hb⟩)
  go_ret
  exact ⟨v, rfl, hrow, hb⟩

theorem words_any (s : ByteArray) (w : World) : Calls Tryz.prog 75 #[.string s] w fun e w' => e = .returned (.func (.func 136) #[] #[.pointer (some ⟨w.heap.size, 0, none⟩)]) ∧ w' = w.alloc (.cells #[.string s] 9) := by
  have hmf : ∀ (fn : Fn) (first cap : Array Value) (w : World), (Instr.makeFunc fn first cap).run Tryz.prog w = .ok (.func fn first cap) w := fun _ _ _ _ => rfl
  go_enter Tryz.func75, Tryz.ntmps75
  go_wp2_with fail
  go_ret
  exact ⟨rfl, rfl⟩
end Go.Proofs.YtmglbegbijofkaaGreatDoor
