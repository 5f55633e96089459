import Derived.Test.YtmglbegbijofkaaGreatDoorQ01
import Derived.Test.YtmglbegbijofkaaGreatDoorQ10
import Derived.Shelf.SlSortCmp.Insertion1
set_option linter.unusedVariables false
set_option linter.unusedSimpArgs false
namespace Go.Proofs.YtmglbegbijofkaaGreatDoor
open Go.RowKit Go.Shelf Go.Sort Go.Lib
variable {α : Type} [Inhabited α] {enc : α → Value} {blk off cap : Nat} {d0 : Array α} {w0 : World}

set_option maxHeartbeats 16000000 in
set_option maxRecDepth 1000000 in
theorem swapRange_s (R : Row1 enc w0 blk off d0) (fv : Value) (a b n lo hi : Nat) (d : Array α) (w : World) (hs : d0.size = d.size) (S : SW enc w0 blk off d w) (h1 : a + n ≤ b) (h2 : b + n ≤ hi) (h3 : hi ≤ d.size) (h4 : lo ≤ a) (hsz : d.size < 4611686018427387904) :
    Calls Tryz.prog 234 #[.slice (some ⟨blk, off, none⟩) d.size cap, .int .i64 a, .int .i64 b, .int .i64 n, fv] w fun e w' => e = .returned (.tuple #[]) ∧ ∃ d', SwR d a b n d' ∧ PermIn lo hi d d' ∧ SW enc w0 blk off d' w' := by
  have mixed : Tryz.prog.follows Departure.mixedOrders = true := by kernel_rfl
  have hcl0 := R.hO.cells
  simp only [Value.cells] at hcl0
  have hst := R.hO.store Tryz.prog
  have S0 : Hid (SW enc w0 blk off d w) := S
  clear S
  go_enter Tryz.func234, Tryz.ntmps234
  go_wp2_with fail
  go_loopg [10] n (fun g v wr => ∃ (k : Nat) (dk : Array α), v = .int .i64 k ∧ k ≤ n ∧ n - k ≤ g ∧ Hid (SwR d a b k dk) ∧ Hid (PermIn lo hi d dk) ∧ Hid (SW enc w0 blk off dk wr))
  case atStart => exact ⟨0, d, rfl, Nat.zero_le _, by omega, SwR.zero d a b, permIn_refl d lo hi, S0.out⟩
  case round =>
    clear S0
    obtain ⟨k, dk, rfl, hk, hg, HW, HP, SK⟩ := hrel
    have hsk : dk.size = d.size := HW.out.1
    by_cases hlt : k < n
    · have hltz : (k : Int) < (n : Int) := by omega
      obtain ⟨iN, hiN⟩ : ∃ q, q = a + k := ⟨_, rfl⟩
      obtain ⟨jN, hjN⟩ : ∃ q, q = b + k := ⟨_, rfl⟩
      have ea : ((a : Int) + (k : Int)).toNat = iN := by omega
      have pa : (0 : Int) ≤ (a : Int) + (k : Int) := by omega
      have ba : (a : Int) + (k : Int) < (d.size : Int) := by omega
      have ra : IntKind.i64.wrap ((a : Int) + (k : Int)) = (a : Int) + (k : Int) := by rw [IntKind.wrap_i64]; omega
      have ec : ((b : Int) + (k : Int)).toNat = jN := by omega
      have pc : (0 : Int) ≤ (b : Int) + (k : Int) := by omega
      have bc : (b : Int) + (k : Int) < (d.size : Int) := by omega
      have rc : IntKind.i64.wrap ((b : Int) + (k : Int)) = (b : Int) + (k : Int) := by rw [IntKind.wrap_i64]; omega
      obtain ⟨x, hx⟩ : ∃ x, x = dk[a + k]! := ⟨_, rfl⟩
      obtain ⟨y, hy⟩ : ∃ x, x = dk[b + k]! := ⟨_, rfl⟩
      have S3 : Hid (SW enc w0 blk off (swp dk (a + k) (b + k)) ((wr.setCell ⟨blk, off + iN, none⟩ (enc y)).setCell ⟨blk, off + jN, none⟩ (enc x)).drew) := by rw [hiN, hjN, hx, hy]; exact SK.out.swapped R (a + k) (b + k) (by omega) (by omega)
      have ca := SK.out.c1 R (by omega) (a + k) (by omega)
      have cb := SK.out.c1 R (by omega) (b + k) (by omega)
      have fa := SK.out.f1 R (by omega) (a + k) (by omega)
      have fb := SK.out.f1 R (by omega) (b + k) (by omega)
      obtain ⟨u, cc⟩ := SK.out.c2 R (by omega) (a + k) (b + k) (by omega) (by omega) (enc y)
      rw [← hjN, ← hiN] at cc
      rw [← hx, ← hiN] at ca
      rw [← hy, ← hjN] at cb
      rw [← hiN] at fa
      rw [← hjN] at fb
      clear SK hx hy hiN hjN
      go_wp2_with fail
      go_big_region_o
      clear ca cb cc fa fb
      generalize ((wr.setCell ⟨blk, off + iN, none⟩ (enc y)).setCell ⟨blk, off + jN, none⟩ (enc x)).drew = w3 at S3 ⊢
      clear ea ec
      go_wp2_with fail
      go_roundg (n - (k + 1))
      case measure => omega
      case rel => exact ⟨k + 1, swp dk (a + k) (b + k), by go_num, by omega, Nat.le_refl _, HW.out.step (by omega) (by omega), permIn_trans _ _ _ lo hi HP.out (swp_permIn dk lo hi (a + k) (b + k) (by omega) (by omega) (by omega) (by omega) (by omega)), S3⟩
    · obtain rfl : k = n := by omega
      have hltz : ¬ (k : Int) < (k : Int) := by omega
      go_wp2_with fail
      go_end0
      exact ⟨rfl, dk, HW.out, HP.out, SK.out⟩

set_option maxHeartbeats 16000000 in
set_option maxRecDepth 1000000 in
theorem rotate_s (R : Row1 enc w0 blk off d0) (fv : Value) (a m b lo hi : Nat) (d : Array α) (w : World) (hs : d0.size = d.size) (S : SW enc w0 blk off d w) (h1 : a < m) (h2 : m < b) (hb : b ≤ hi) (h3 : hi ≤ d.size) (h4 : lo ≤ a) (hsz : d.size < 4611686018427387904) :
    Calls Tryz.prog 202 #[.slice (some ⟨blk, off, none⟩) d.size cap, .int .i64 a, .int .i64 m, .int .i64 b, fv] w fun e w' => e = .returned (.tuple #[]) ∧ ∃ d', RotS d a m b d' ∧ PermIn lo hi d d' ∧ SW enc w0 blk off d' w' := by
  have S0 : Hid (SW enc w0 blk off d w) := S
  clear S
  have R0 := Lib.hid R
  clear R
  go_enter Tryz.func202, Tryz.ntmps202
  go_wp2_with fail
  go_loopg [10, 11] (b - a) (fun g v u wr => ∃ (i j : Nat) (dk : Array α), v = .int .i64 i ∧ u = .int .i64 j ∧ 1 ≤ i ∧ 1 ≤ j ∧ i ≤ m - a ∧ j ≤ b - m ∧ i + j ≤ g ∧ Hid (Rot (rotT d a m b) dk m i j) ∧ Hid (PermIn lo hi d dk) ∧ Hid (SW enc w0 blk off dk wr))
  case atStart => exact ⟨m - a, b - m, d, by go_num, by go_num, by omega, by omega, Nat.le_refl _, Nat.le_refl _, by omega, Rot.start d a m b (by omega) (by omega) (by omega), permIn_refl d lo hi, S0.out⟩
  case round =>
    clear S0
    obtain ⟨i, j, dk, rfl, rfl, hi1, hj1, hi2, hj2, hg, HR, HP, SK⟩ := hrel
    have hsk : dk.size = d.size := HP.out.1
    by_cases hij : i = j
    · subst hij
      have hcon := swapRange_s (cap := cap) R0.out fv (m - i) m i lo hi dk wr (by omega) SK.out (by omega) (by omega) (by omega) (by omega) (by omega)
      rw [hsk, show ((m - i : Nat) : Int) = (m : Int) - (i : Int) by omega] at hcon
      have HC := Lib.hid hcon
      clear hcon
      go_wp2_with fail
      refine HC.out.mono ?_
      rintro e w2 ⟨rfl, d2, q1, q2, q3⟩
      have HQ := Lib.hid (And.intro q1 (And.intro q2 q3))
      clear q1 q2 q3
      go_wp2_with fail
      go_end0
      exact ⟨rfl, d2, Rot.done (by omega) (by omega) (by omega) HR.out HQ.out.1, permIn_trans _ _ _ lo hi HP.out HQ.out.2.1, HQ.out.2.2⟩
    · have hijz : ¬ ((i : Int) = (j : Int)) := by omega
      by_cases hgt : j < i
      · have hgtz : (j : Int) < (i : Int) := by omega
        have hcon := swapRange_s (cap := cap) R0.out fv (m - i) m j lo hi dk wr (by omega) SK.out (by omega) (by omega) (by omega) (by omega) (by omega)
        rw [hsk, show ((m - i : Nat) : Int) = (m : Int) - (i : Int) by omega] at hcon
        have HC := Lib.hid hcon
        clear hcon
        go_wp2_with fail
        refine HC.out.mono ?_
        rintro e w2 ⟨rfl, d2, q1, q2, q3⟩
        have HQ := Lib.hid (And.intro q1 (And.intro q2 q3))
        clear q1 q2 q3
        go_wp2_with fail
        go_roundg (i - j + j)
        case measure => omega
        case rel => exact ⟨i - j, j, d2, by go_num, rfl, by omega, hj1, by omega, hj2, by omega, HR.out.more hgt HQ.out.1, permIn_trans _ _ _ lo hi HP.out HQ.out.2.1, HQ.out.2.2⟩
      · have hgtz : ¬ ((j : Int) < (i : Int)) := by omega
        have hcon := swapRange_s (cap := cap) R0.out fv (m - i) (m + j - i) i lo hi dk wr (by omega) SK.out (by omega) (by omega) (by omega) (by omega) (by omega)
        rw [hsk, show ((m - i : Nat) : Int) = (m : Int) - (i : Int) by omega, show ((m + j - i : Nat) : Int) = (m : Int) + (j : Int) - (i : Int) by omega] at hcon
        have HC := Lib.hid hcon
        clear hcon
        go_wp2_with fail
        refine HC.out.mono ?_
        rintro e w2 ⟨rfl, d2, q1, q2, q3⟩
        have HQ := Lib.hid (And.intro q1 (And.intro q2 q3))
        clear q1 q2 q3
        go_wp2_with fail
        go_roundg (i + (j - i))
        case measure => omega
        case rel => exact ⟨i, j - i, d2, rfl, by go_num, hi1, by omega, hi2, by omega, by omega, HR.out.less (by omega) HQ.out.1, permIn_trans _ _ _ lo hi HP.out HQ.out.2.1, HQ.out.2.2⟩
end Go.Proofs.YtmglbegbijofkaaGreatDoor
namespace Go.Proofs.YtmglbegbijofkaaGreatDoor
open Go.RowKit Go.Shelf Go.Sort Go.Lib
variable {α : Type} [Inhabited α] {enc : α → Value} {blk off cap : Nat} {d0 : Array α} {w0 : World}
abbrev SymPost (enc : α → Value) (w0 : World) (blk off : Nat) (slt : α → α → Bool) (a b : Nat) (d : Array α) (e : Ending) (w' : World) : Prop :=
  e = .returned (.tuple #[]) ∧ ∃ d', SortedIn slt a b d' ∧ PermIn a b d d' ∧ SW enc w0 blk off d' w'
set_option maxHeartbeats 16000000 in
set_option maxRecDepth 1000000 in
/-- SymMerge where the left run is one element -/
theorem sym_left (R : Row1 enc w0 blk off d0) {cf : α → α → Int} {slt : α → α → Bool} {idn : α → Nat} (ST : Stab (ltOf cf) slt idn) (g : Nat) (cb : Array Value) (eg : ∀ args w, (callFunc g args).run Tryz.prog w = .ok (.enter g args) w) (hcmp : CmpLays1 Tryz.prog g cb enc cf blk off d0.size w0)
    (a m b : Nat) (d : Array α) (w : World) (hs : d0.size = d.size) (S : SW enc w0 blk off d w) (hm : m = a + 1) (h2 : m < b) (h3 : b ≤ d.size) (hsz : d.size < 4611686018427387904) (q2 : SortedIn slt m b d) (qa : Asc idn a m b d) :
    Calls Tryz.prog 179 #[.slice (some ⟨blk, off, none⟩) d.size cap, .int .i64 a, .int .i64 m, .int .i64 b, .func (.func g) #[] cb] w (SymPost enc w0 blk off slt a b d) := by
  have mixed : Tryz.prog.follows Departure.mixedOrders = true := by kernel_rfl
  have hcl0 := R.hO.cells
  simp only [Value.cells] at hcl0
  have hst := R.hO.store Tryz.prog
  have SK : Hid (SW enc w0 blk off d w) := S
  have R0 := Lib.hid R
  have HC := Lib.hid hcmp
  have HST := Lib.hid ST
  have HQ2 := Lib.hid q2
  have HQA := Lib.hid qa
  clear S R hcmp ST q2 qa
  have e0 : (m : Int) - (a : Int) = 1 := by omega
  have HM0 := Lib.hid hm
  clear hm
  go_enter Tryz.func179, Tryz.ntmps179
  go_wp2_with fail
  go_loopg [10, 11] (b - m) (fun g1 v u wr => ∃ (i j : Nat), v = .int .i64 i ∧ u = .int .i64 j ∧ m ≤ i ∧ i ≤ j ∧ j ≤ b ∧ j - i ≤ g1 ∧ Hid (i = m ∨ ltOf cf d[i - 1]! d[a]! = true) ∧ Hid (j = b ∨ ltOf cf d[j]! d[a]! = false) ∧ Hid (SW enc w0 blk off d wr))
  case atStart => exact ⟨m, b, rfl, rfl, Nat.le_refl _, by omega, Nat.le_refl _, Nat.le_refl _, Or.inl rfl, Or.inl rfl, SK.out⟩
  case round =>
    clear SK
    obtain ⟨i, j, rfl, rfl, hi1, hij, hj1, hg, HLO, HHI, SK⟩ := hrel
    by_cases hlt : i < j
    · have hltz : (i : Int) < (j : Int) := by omega
      obtain ⟨h, hh⟩ : ∃ h, h = (i + j) / 2 := ⟨_, rfl⟩
      have eh : ((i : Int) + (j : Int)) / 2 = (h : Int) := by omega
      have h1 : i ≤ h := by omega
      have h2 : h < j := by omega
      clear hh
      cases hlv : ltOf cf d[h]! d[a]! with
      | true =>
        obtain ⟨iN, hiN⟩ : ∃ q, q = h := ⟨_, rfl⟩
        obtain ⟨jN, hjN⟩ : ∃ q, q = a := ⟨_, rfl⟩
        have ea : ((h : Int) : Int).toNat = iN := by omega
        have pa : (0 : Int) ≤ (h : Int) := by omega
        have ba : ((h : Int) : Int) < (d.size : Int) := by omega
        have ra : IntKind.i64.wrap ((h : Int) : Int) = (h : Int) := by rw [IntKind.wrap_i64]; omega
        have ec : ((a : Int) : Int).toNat = jN := by omega
        have pc : (0 : Int) ≤ (a : Int) := by omega
        have bc : ((a : Int) : Int) < (d.size : Int) := by omega
        have rc : IntKind.i64.wrap ((a : Int) : Int) = (a : Int) := by rw [IntKind.wrap_i64]; omega
        obtain ⟨x, hx⟩ : ∃ x, x = d[h]! := ⟨_, rfl⟩
        obtain ⟨y, hy⟩ : ∃ x, x = d[a]! := ⟨_, rfl⟩
        have la := SK.out.cl R0.out (by omega) (h) (by omega)
        have lb := SK.out.cl R0.out (by omega) (a) (by omega)
        rw [← hx, ← hiN] at la
        rw [← hy, ← hjN] at lb
        have hc := SK.out.cmp HC.out (by omega) x y
        have hv : cf x y < 0 := by rw [hx, hy]; exact of_decide_eq_true hlv
        have hd : decide (cf x y < 0) = true := decide_eq_true hv
        clear hx hy hiN hjN
        go_wp2_with fail
        go_quiet_grown (first | (go_at_fn g; refine Calls.grown_of (hc _ _)))
        have S2 : Hid (SW enc w0 blk off d (grow (wr.drewN nq) osq)) := SK.out.grown nq osq
        clear la lb hc SK
        generalize grow (wr.drewN nq) osq = w2 at S2 ⊢
        clear nq osq
        clear ea ec
        go_wp2_with fail
        go_roundg (j - (h + 1))
        case measure => omega
        case rel => exact ⟨h + 1, j, by go_num, rfl, by omega, by omega, hj1, Nat.le_refl _, Or.inr hlv, HHI.out, S2.out⟩
      | false =>
        obtain ⟨iN, hiN⟩ : ∃ q, q = h := ⟨_, rfl⟩
        obtain ⟨jN, hjN⟩ : ∃ q, q = a := ⟨_, rfl⟩
        have ea : ((h : Int) : Int).toNat = iN := by omega
        have pa : (0 : Int) ≤ (h : Int) := by omega
        have ba : ((h : Int) : Int) < (d.size : Int) := by omega
        have ra : IntKind.i64.wrap ((h : Int) : Int) = (h : Int) := by rw [IntKind.wrap_i64]; omega
        have ec : ((a : Int) : Int).toNat = jN := by omega
        have pc : (0 : Int) ≤ (a : Int) := by omega
        have bc : ((a : Int) : Int) < (d.size : Int) := by omega
        have rc : IntKind.i64.wrap ((a : Int) : Int) = (a : Int) := by rw [IntKind.wrap_i64]; omega
        obtain ⟨x, hx⟩ : ∃ x, x = d[h]! := ⟨_, rfl⟩
        obtain ⟨y, hy⟩ : ∃ x, x = d[a]! := ⟨_, rfl⟩
        have la := SK.out.cl R0.out (by omega) (h) (by omega)
        have lb := SK.out.cl R0.out (by omega) (a) (by omega)
        rw [← hx, ← hiN] at la
        rw [← hy, ← hjN] at lb
        have hc := SK.out.cmp HC.out (by omega) x y
        have hv : ¬ cf x y < 0 := by rw [hx, hy]; exact of_decide_eq_false hlv
        have hd : decide (cf x y < 0) = false := decide_eq_false hv
        clear hx hy hiN hjN
        go_wp2_with fail
        go_quiet_grown (first | (go_at_fn g; refine Calls.grown_of (hc _ _)))
        have S2 : Hid (SW enc w0 blk off d (grow (wr.drewN nq) osq)) := SK.out.grown nq osq
        clear la lb hc SK
        generalize grow (wr.drewN nq) osq = w2 at S2 ⊢
        clear nq osq
        clear ea ec
        go_wp2_with fail
        go_roundg (h - i)
        case measure => omega
        case rel => exact ⟨i, h, rfl, rfl, hi1, h1, by omega, Nat.le_refl _, HLO.out, Or.inr hlv, S2.out⟩
    · obtain rfl : i = j := by omega
      have hltz : ¬ (i : Int) < (i : Int) := by omega
      have ei : IntKind.i64.wrap ((i : Int) - 1) = (i : Int) - 1 := by rw [IntKind.wrap_i64]; omega
      go_wp2_with fail
      go_loopg [13] (i - 1 - a) (fun g1 v wr => ∃ (k : Nat) (dk : Array α), v = .int .i64 k ∧ a ≤ k ∧ k ≤ i - 1 ∧ i - 1 - k ≤ g1 ∧ Hid (moveUp d a k dk) ∧ Hid (PermIn a b d dk) ∧ Hid (SW enc w0 blk off dk wr))
      case atStart => exact ⟨a, d, rfl, Nat.le_refl _, by omega, Nat.le_refl _, moveUp.start d a, permIn_refl d a b, SK.out⟩
      case round =>
        clear SK
        obtain ⟨k, dk, rfl, hk1, hk2, hg2, HM, HP, SK⟩ := hrel
        have hsk : dk.size = d.size := HP.out.1
        by_cases hlt2 : k < i - 1
        · have hltz2 : (k : Int) < (i : Int) - 1 := by omega
          obtain ⟨iN, hiN⟩ : ∃ q, q = k := ⟨_, rfl⟩
          obtain ⟨jN, hjN⟩ : ∃ q, q = k + 1 := ⟨_, rfl⟩
          have ea : ((k : Int) : Int).toNat = iN := by omega
          have pa : (0 : Int) ≤ (k : Int) := by omega
          have ba : ((k : Int) : Int) < (d.size : Int) := by omega
          have ra : IntKind.i64.wrap ((k : Int) : Int) = (k : Int) := by rw [IntKind.wrap_i64]; omega
          have ec : ((k : Int) + 1 : Int).toNat = jN := by omega
          have pc : (0 : Int) ≤ (k : Int) + 1 := by omega
          have bc : ((k : Int) + 1 : Int) < (d.size : Int) := by omega
          have rc : IntKind.i64.wrap ((k : Int) + 1 : Int) = (k : Int) + 1 := by rw [IntKind.wrap_i64]; omega
          obtain ⟨x, hx⟩ : ∃ x, x = dk[k]! := ⟨_, rfl⟩
          obtain ⟨y, hy⟩ : ∃ x, x = dk[k + 1]! := ⟨_, rfl⟩
          have S3 : Hid (SW enc w0 blk off (swp dk (k) (k + 1)) ((wr.setCell ⟨blk, off + iN, none⟩ (enc y)).setCell ⟨blk, off + jN, none⟩ (enc x)).drew) := by rw [hiN, hjN, hx, hy]; exact SK.out.swapped R0.out (k) (k + 1) (by omega) (by omega)
          have ca := SK.out.c1 R0.out (by omega) (k) (by omega)
          have cb := SK.out.c1 R0.out (by omega) (k + 1) (by omega)
          have fa := SK.out.f1 R0.out (by omega) (k) (by omega)
          have fb := SK.out.f1 R0.out (by omega) (k + 1) (by omega)
          obtain ⟨u, cc⟩ := SK.out.c2 R0.out (by omega) (k) (k + 1) (by omega) (by omega) (enc y)
          rw [← hjN, ← hiN] at cc
          rw [← hx, ← hiN] at ca
          rw [← hy, ← hjN] at cb
          rw [← hiN] at fa
          rw [← hjN] at fb
          clear SK hx hy hiN hjN
          go_wp2_with fail
          go_big_region_o
          clear ca cb cc fa fb
          generalize ((wr.setCell ⟨blk, off + iN, none⟩ (enc y)).setCell ⟨blk, off + jN, none⟩ (enc x)).drew = w3 at S3 ⊢
          clear ea ec
          go_wp2_with fail
          go_roundg (i - 1 - (k + 1))
          case measure => omega
          case rel => exact ⟨k + 1, swp dk k (k + 1), by go_num, by omega, by omega, Nat.le_refl _, HM.out.step (by omega), permIn_trans _ _ _ a b HP.out (swp_permIn dk a b k (k + 1) (by omega) (by omega) (by omega) (by omega) (by omega)), S3⟩
        · obtain rfl : k = i - 1 := by omega
          have hltz2 : ¬ (((i - 1 : Nat)) : Int) < (i : Int) - 1 := by omega
          go_wp2_with fail
          go_end0
          obtain rfl := HM0.out
          exact ⟨rfl, dk, merge_left HST.out (by omega) h2 HQ2.out HQA.out hi1 hj1 HLO.out HHI.out HM.out, HP.out, SK.out⟩
end Go.Proofs.YtmglbegbijofkaaGreatDoor
namespace Go.Proofs.YtmglbegbijofkaaGreatDoor
open Go.RowKit Go.Shelf Go.Sort Go.Lib
variable {α : Type} [Inhabited α] {enc : α → Value} {blk off cap : Nat} {d0 : Array α} {w0 : World}
set_option maxHeartbeats 16000000 in
set_option maxRecDepth 1000000 in
/-- SymMerge where the right run is one element -/
theorem sym_right (R : Row1 enc w0 blk off d0) {cf : α → α → Int} {slt : α → α → Bool} {idn : α → Nat} (ST : Stab (ltOf cf) slt idn) (g : Nat) (cb : Array Value) (eg : ∀ args w, (callFunc g args).run Tryz.prog w = .ok (.enter g args) w) (hcmp : CmpLays1 Tryz.prog g cb enc cf blk off d0.size w0)
    (a m b : Nat) (d : Array α) (w : World) (hs : d0.size = d.size) (S : SW enc w0 blk off d w) (hm : a + 1 < m) (h2 : b = m + 1) (h3 : b ≤ d.size) (hsz : d.size < 4611686018427387904) (q1 : SortedIn slt a m d) (qa : Asc idn a m b d) :
    Calls Tryz.prog 179 #[.slice (some ⟨blk, off, none⟩) d.size cap, .int .i64 a, .int .i64 m, .int .i64 b, .func (.func g) #[] cb] w (SymPost enc w0 blk off slt a b d) := by
  have mixed : Tryz.prog.follows Departure.mixedOrders = true := by kernel_rfl
  have hcl0 := R.hO.cells
  simp only [Value.cells] at hcl0
  have hst := R.hO.store Tryz.prog
  have SK : Hid (SW enc w0 blk off d w) := S
  have R0 := Lib.hid R
  have HC := Lib.hid hcmp
  have HST := Lib.hid ST
  have HQ1 := Lib.hid q1
  have HQA := Lib.hid qa
  clear S R hcmp ST q1 qa
  have e0 : ¬ ((m : Int) - (a : Int) = 1) := by omega
  have e0' : ((m : Int) - (a : Int) == 1) = false := by simpa using e0
  have e1 : (b : Int) - (m : Int) = 1 := by omega
  have HB0 := Lib.hid h2
  clear h2
  go_enter Tryz.func179, Tryz.ntmps179
  go_wp2_with fail
  go_loopg [14, 15] (m - a) (fun g1 v u wr => ∃ (i j : Nat), v = .int .i64 i ∧ u = .int .i64 j ∧ a ≤ i ∧ i ≤ j ∧ j ≤ m ∧ j - i ≤ g1 ∧ Hid (i = a ∨ ltOf cf d[m]! d[i - 1]! = false) ∧ Hid (j = m ∨ ltOf cf d[m]! d[j]! = true) ∧ Hid (SW enc w0 blk off d wr))
  case atStart => exact ⟨a, m, rfl, rfl, Nat.le_refl _, by omega, Nat.le_refl _, Nat.le_refl _, Or.inl rfl, Or.inl rfl, SK.out⟩
  case round =>
    clear SK
    obtain ⟨i, j, rfl, rfl, hi1, hij, hj1, hg, HLO, HHI, SK⟩ := hrel
    by_cases hlt : i < j
    · have hltz : (i : Int) < (j : Int) := by omega
      obtain ⟨h, hh⟩ : ∃ h, h = (i + j) / 2 := ⟨_, rfl⟩
      have eh : ((i : Int) + (j : Int)) / 2 = (h : Int) := by omega
      have h1 : i ≤ h := by omega
      have h2 : h < j := by omega
      clear hh
      cases hlv : ltOf cf d[m]! d[h]! with
      | true =>
        obtain ⟨iN, hiN⟩ : ∃ q, q = m := ⟨_, rfl⟩
        obtain ⟨jN, hjN⟩ : ∃ q, q = h := ⟨_, rfl⟩
        have ea : ((m : Int) : Int).toNat = iN := by omega
        have pa : (0 : Int) ≤ (m : Int) := by omega
        have ba : ((m : Int) : Int) < (d.size : Int) := by omega
        have ra : IntKind.i64.wrap ((m : Int) : Int) = (m : Int) := by rw [IntKind.wrap_i64]; omega
        have ec : ((h : Int) : Int).toNat = jN := by omega
        have pc : (0 : Int) ≤ (h : Int) := by omega
        have bc : ((h : Int) : Int) < (d.size : Int) := by omega
        have rc : IntKind.i64.wrap ((h : Int) : Int) = (h : Int) := by rw [IntKind.wrap_i64]; omega
        obtain ⟨x, hx⟩ : ∃ x, x = d[m]! := ⟨_, rfl⟩
        obtain ⟨y, hy⟩ : ∃ x, x = d[h]! := ⟨_, rfl⟩
        have la := SK.out.cl R0.out (by omega) (m) (by omega)
        have lb := SK.out.cl R0.out (by omega) (h) (by omega)
        rw [← hx, ← hiN] at la
        rw [← hy, ← hjN] at lb
        have hc := SK.out.cmp HC.out (by omega) x y
        have hv : cf x y < 0 := by rw [hx, hy]; exact of_decide_eq_true hlv
        have hd : decide (cf x y < 0) = true := decide_eq_true hv
        clear hx hy hiN hjN
        go_wp2_with fail
        go_quiet_grown (first | (go_at_fn g; refine Calls.grown_of (hc _ _)))
        have S2 : Hid (SW enc w0 blk off d (grow (wr.drewN nq) osq)) := SK.out.grown nq osq
        clear la lb hc SK
        generalize grow (wr.drewN nq) osq = w2 at S2 ⊢
        clear nq osq
        clear ea ec
        go_wp2_with fail
        go_roundg (h - i)
        case measure => omega
        case rel => exact ⟨i, h, rfl, rfl, hi1, h1, by omega, Nat.le_refl _, HLO.out, Or.inr hlv, S2.out⟩
      | false =>
        obtain ⟨iN, hiN⟩ : ∃ q, q = m := ⟨_, rfl⟩
        obtain ⟨jN, hjN⟩ : ∃ q, q = h := ⟨_, rfl⟩
        have ea : ((m : Int) : Int).toNat = iN := by omega
        have pa : (0 : Int) ≤ (m : Int) := by omega
        have ba : ((m : Int) : Int) < (d.size : Int) := by omega
        have ra : IntKind.i64.wrap ((m : Int) : Int) = (m : Int) := by rw [IntKind.wrap_i64]; omega
        have ec : ((h : Int) : Int).toNat = jN := by omega
        have pc : (0 : Int) ≤ (h : Int) := by omega
        have bc : ((h : Int) : Int) < (d.size : Int) := by omega
        have rc : IntKind.i64.wrap ((h : Int) : Int) = (h : Int) := by rw [IntKind.wrap_i64]; omega
        obtain ⟨x, hx⟩ : ∃ x, x = d[m]! := ⟨_, rfl⟩
        obtain ⟨y, hy⟩ : ∃ x, x = d[h]! := ⟨_, rfl⟩
        have la := SK.out.cl R0.out (by omega) (m) (by omega)
        have lb := SK.out.cl R0.out (by omega) (h) (by omega)
        rw [← hx, ← hiN] at la
        rw [← hy, ← hjN] at lb
        have hc := SK.out.cmp HC.out (by omega) x y
        have hv : ¬ cf x y < 0 := by rw [hx, hy]; exact of_decide_eq_false hlv
        have hd : decide (cf x y < 0) = false := decide_eq_false hv
        clear hx hy hiN hjN
        go_wp2_with fail
        go_quiet_grown (first | (go_at_fn g; refine Calls.grown_of (hc _ _)))
        have S2 : Hid (SW enc w0 blk off d (grow (wr.drewN nq) osq)) := SK.out.grown nq osq
        clear la lb hc SK
        generalize grow (wr.drewN nq) osq = w2 at S2 ⊢
        clear nq osq
        clear ea ec
        go_wp2_with fail
        go_roundg (j - (h + 1))
        case measure => omega
        case rel => exact ⟨h + 1, j, by go_num, rfl, by omega, by omega, hj1, Nat.le_refl _, Or.inr hlv, HHI.out, S2.out⟩
    · obtain rfl : i = j := by omega
      have hltz : ¬ (i : Int) < (i : Int) := by omega
      go_wp2_with fail
      go_loopg [17] (m - i) (fun g1 v wr => ∃ (k : Nat) (dk : Array α), v = .int .i64 k ∧ i ≤ k ∧ k ≤ m ∧ k - i ≤ g1 ∧ Hid (moveDn d m k dk) ∧ Hid (PermIn a b d dk) ∧ Hid (SW enc w0 blk off dk wr))
      case atStart => exact ⟨m, d, rfl, by omega, Nat.le_refl _, Nat.le_refl _, moveDn.start d m, permIn_refl d a b, SK.out⟩
      case round =>
        clear SK
        obtain ⟨k, dk, rfl, hk1, hk2, hg2, HM, HP, SK⟩ := hrel
        have hsk : dk.size = d.size := HP.out.1
        by_cases hlt2 : i < k
        · obtain ⟨kp, hkp⟩ : ∃ kp, k = kp + 1 := ⟨k - 1, by omega⟩
          have zk : (k : Int) = (kp : Int) + 1 := by omega
          have hltz2 : (i : Int) < (kp : Int) + 1 := by omega
          have HM2 : Hid (moveDn d m (kp + 1) dk) := show moveDn d m (kp + 1) dk from by rw [← hkp]; exact HM.out
          clear HM
          obtain ⟨iN, hiN⟩ : ∃ q, q = kp + 1 := ⟨_, rfl⟩
          obtain ⟨jN, hjN⟩ : ∃ q, q = kp := ⟨_, rfl⟩
          have ea : ((kp : Int) + 1 : Int).toNat = iN := by omega
          have pa : (0 : Int) ≤ (kp : Int) + 1 := by omega
          have ba : ((kp : Int) + 1 : Int) < (d.size : Int) := by omega
          have ra : IntKind.i64.wrap ((kp : Int) + 1 : Int) = (kp : Int) + 1 := by rw [IntKind.wrap_i64]; omega
          have ec : ((kp : Int) : Int).toNat = jN := by omega
          have pc : (0 : Int) ≤ (kp : Int) := by omega
          have bc : ((kp : Int) : Int) < (d.size : Int) := by omega
          have rc : IntKind.i64.wrap ((kp : Int) : Int) = (kp : Int) := by rw [IntKind.wrap_i64]; omega
          obtain ⟨x, hx⟩ : ∃ x, x = dk[kp + 1]! := ⟨_, rfl⟩
          obtain ⟨y, hy⟩ : ∃ x, x = dk[kp]! := ⟨_, rfl⟩
          have S3 : Hid (SW enc w0 blk off (swp dk (kp + 1) (kp)) ((wr.setCell ⟨blk, off + iN, none⟩ (enc y)).setCell ⟨blk, off + jN, none⟩ (enc x)).drew) := by rw [hiN, hjN, hx, hy]; exact SK.out.swapped R0.out (kp + 1) (kp) (by omega) (by omega)
          have ca := SK.out.c1 R0.out (by omega) (kp + 1) (by omega)
          have cb := SK.out.c1 R0.out (by omega) (kp) (by omega)
          have fa := SK.out.f1 R0.out (by omega) (kp + 1) (by omega)
          have fb := SK.out.f1 R0.out (by omega) (kp) (by omega)
          obtain ⟨u, cc⟩ := SK.out.c2 R0.out (by omega) (kp + 1) (kp) (by omega) (by omega) (enc y)
          rw [← hiN, ← hjN] at cc
          rw [← hx, ← hiN] at ca
          rw [← hy, ← hjN] at cb
          rw [← hiN] at fa
          rw [← hjN] at fb
          clear SK hx hy hiN hjN
          go_wp2_with fail
          go_big_region_o
          clear ca cb cc fa fb
          generalize ((wr.setCell ⟨blk, off + iN, none⟩ (enc y)).setCell ⟨blk, off + jN, none⟩ (enc x)).drew = w3 at S3 ⊢
          clear ea ec
          go_wp2_with fail
          go_roundg (kp - i)
          case measure => omega
          case rel => exact ⟨kp, swp dk (kp + 1) kp, by go_num, by omega, by omega, Nat.le_refl _, HM2.out.step (by omega), permIn_trans _ _ _ a b HP.out (swp_permIn dk a b (kp + 1) kp (by omega) (by omega) (by omega) (by omega) (by omega)), S3⟩
        · obtain rfl : k = i := by omega
          have hltz2 : ¬ (k : Int) < (k : Int) := by omega
          go_wp2_with fail
          go_end0
          obtain rfl := HB0.out
          exact ⟨rfl, dk, merge_right HST.out (by omega) (by omega) HQ1.out HQA.out hi1 hk2 HLO.out HHI.out HM.out, HP.out, SK.out⟩
end Go.Proofs.YtmglbegbijofkaaGreatDoor
namespace Go.Proofs.YtmglbegbijofkaaGreatDoor
open Go.RowKit Go.Shelf Go.Sort Go.Lib
variable {α : Type} [Inhabited α] {enc : α → Value} {blk off cap : Nat} {d0 : Array α} {w0 : World}
theorem Mid.right {slt : α → α → Bool} {idn : α → Nat} {a s mid e b : Nat} {d1 d2 : Array α} (hme : mid ≤ e) (h : Mid slt idn a s mid e b d1) (hp : PermIn a mid d1 d2) : SortedIn slt mid e d2 ∧ SortedIn slt e b d2 ∧ Asc idn mid e b d2 := by
  have x : ∀ i : Nat, mid ≤ i → d2[i]! = d1[i]! := fun i hi => hp.2.1 i (Or.inr hi)
  refine ⟨fun i j h1 h2 h3 => ?_, fun i j h1 h2 h3 => ?_, fun i j h1 h2 h3 h4 => ?_⟩
  · rw [x i h1, x j (by omega)]; exact h.r1 i j h1 h2 h3
  · rw [x i (by omega), x j (by omega)]; exact h.r2 i j h1 h2 h3
  · rw [x i h1, x j (by omega)]; exact h.ar i j h1 h2 h3 h4
theorem rotS_none {d : Array α} {s m e : Nat} (h : s = m ∨ m = e) (h1 : s ≤ m) (h2 : m ≤ e) : RotS d s m e d := by
  refine ⟨rfl, fun x => ?_⟩
  rcases h with rfl | rfl
  · by_cases c1 : s ≤ x ∧ x < s + (e - s)
    · rw [if_pos c1]; congr 1; omega
    · rw [if_neg c1, if_neg (by omega)]
  · rw [if_neg (by omega)]
    by_cases c1 : s + (m - m) ≤ x ∧ x < m
    · rw [if_pos c1]; congr 1; omega
    · rw [if_neg c1]
end Go.Proofs.YtmglbegbijofkaaGreatDoor
namespace Go.Proofs.YtmglbegbijofkaaGreatDoor
open Go.RowKit Go.Shelf Go.Sort Go.Lib
variable {α : Type} [Inhabited α] {enc : α → Value} {blk off cap : Nat} {d0 : Array α} {w0 : World}
set_option maxHeartbeats 64000000 in
set_option maxRecDepth 1000000 in
theorem sym_case1 (R : Row1 enc w0 blk off d0) {cf : α → α → Int} {slt : α → α → Bool} {idn : α → Nat} (ST : Stab (ltOf cf) slt idn) (g : Nat) (cb : Array Value) (eg : ∀ args w, (callFunc g args).run Tryz.prog w = .ok (.enter g args) w) (hcmp : CmpLays1 Tryz.prog g cb enc cf blk off d0.size w0)
    (a m b mid : Nat) (d : Array α) (w : World) (hs : d0.size = d.size) (S : SW enc w0 blk off d w) (hm1 : a + 1 < m) (hb1 : m + 1 < b) (h3 : b ≤ d.size) (hsz : d.size < 4611686018427387904) (q1 : SortedIn slt a m d) (q2 : SortedIn slt m b d) (qa : Asc idn a m b d) (hmid : mid = (a + b) / 2) (hmm : mid < m)
    (hIH : ∀ (a2 m2 b2 : Nat) (d2 : Array α) (w2 : World), b2 - a2 < b - a → d0.size = d2.size → SW enc w0 blk off d2 w2 → a2 < m2 → m2 < b2 → b2 ≤ d2.size → SortedIn slt a2 m2 d2 → SortedIn slt m2 b2 d2 → Asc idn a2 m2 b2 d2 → Calls Tryz.prog 179 #[.slice (some ⟨blk, off, none⟩) d2.size cap, .int .i64 a2, .int .i64 m2, .int .i64 b2, .func (.func g) #[] cb] w2 (SymPost enc w0 blk off slt a2 b2 d2)) :
    Calls Tryz.prog 179 #[.slice (some ⟨blk, off, none⟩) d.size cap, .int .i64 a, .int .i64 m, .int .i64 b, .func (.func g) #[] cb] w (SymPost enc w0 blk off slt a b d) := by
  have mixed : Tryz.prog.follows Departure.mixedOrders = true := by kernel_rfl
  have hcl0 := R.hO.cells
  simp only [Value.cells] at hcl0
  have hst := R.hO.store Tryz.prog
  have SK : Hid (SW enc w0 blk off d w) := S
  have R0 := Lib.hid R
  have HC := Lib.hid hcmp
  have HST := Lib.hid ST
  have HQ1 := Lib.hid q1
  have HQ2 := Lib.hid q2
  have HQA := Lib.hid qa
  have IH := Lib.hid hIH
  have HMD := Lib.hid hmid
  have em : ((a : Int) + (b : Int)) / 2 = (mid : Int) := by omega
  have hm2 : a < mid := by omega
  have hm3 : mid < b := by omega
  have hml : mid + mid ≤ a + b := by omega
  have hmu : a + b ≤ mid + mid + 1 := by omega
  have ham : a < m := by omega
  have hmb : m < b := by omega
  have e0 : ¬ ((m : Int) - (a : Int) = 1) := by omega
  have e1 : ¬ ((b : Int) - (m : Int) = 1) := by omega
  have e0' : ((m : Int) - (a : Int) == 1) = false := by simpa using e0
  have e1' : ((b : Int) - (m : Int) == 1) = false := by simpa using e1
  clear S R hcmp ST q1 q2 qa hIH hmid
  have g0 : (mid : Int) < (m : Int) := by omega
  obtain ⟨s0, hs01, hs02⟩ : ∃ s0, s0 + b ≤ mid + m ∧ mid + m ≤ s0 + b := ⟨mid + m - b, by omega, by omega⟩
  obtain ⟨r0, hr01, hr02⟩ : ∃ r0, r0 ≤ mid ∧ mid ≤ r0 := ⟨mid, by omega, by omega⟩
  have zs0 : (mid : Int) + (m : Int) - (b : Int) = (s0 : Int) := by omega
  go_enter Tryz.func179, Tryz.ntmps179
  go_wp2_with fail
  go_loopg [20, 21] (b - a) (fun g1 v u wr => ∃ (s r : Nat), v = .int .i64 s ∧ u = .int .i64 r ∧ s0 ≤ s ∧ s ≤ r ∧ r ≤ r0 ∧ r - s ≤ g1 ∧ Hid (s = s0 ∨ ltOf cf d[mid + m - s]! d[s - 1]! = false) ∧ Hid (r = r0 ∨ ltOf cf d[mid + m - r - 1]! d[r]! = true) ∧ Hid (SW enc w0 blk off d wr))
  case atStart => exact ⟨s0, mid, by go_num, by go_num, by omega, by omega, by omega, by omega, Or.inl (by omega), Or.inl (by omega), SK.out⟩
  case round =>
    clear SK
    obtain ⟨s, r, rfl, rfl, hi1, hij, hj1, hg, HLO, HHI, SK⟩ := hrel
    by_cases hlt : s < r
    · have hltz : (s : Int) < (r : Int) := by omega
      obtain ⟨h, hh⟩ : ∃ h, h = (s + r) / 2 := ⟨_, rfl⟩
      have eh : ((s : Int) + (r : Int)) / 2 = (h : Int) := by omega
      have h1 : s ≤ h := by omega
      have h2 : h < r := by omega
      clear hh
      obtain ⟨pq, hp1, hp2⟩ : ∃ pq, pq + h + 1 ≤ mid + m ∧ mid + m ≤ pq + h + 1 := ⟨mid + m - h - 1, by omega, by omega⟩
      have ep : (mid : Int) + (m : Int) - 1 - (h : Int) = (pq : Int) := by omega
      cases hlv : ltOf cf d[pq]! d[h]! with
      | true =>
        obtain ⟨iN, hiN⟩ : ∃ q, q = pq := ⟨_, rfl⟩
        obtain ⟨jN, hjN⟩ : ∃ q, q = h := ⟨_, rfl⟩
        have ea : ((pq : Int) : Int).toNat = iN := by omega
        have pa : (0 : Int) ≤ (pq : Int) := by omega
        have ba : ((pq : Int) : Int) < (d.size : Int) := by omega
        have ra : IntKind.i64.wrap ((pq : Int) : Int) = (pq : Int) := by rw [IntKind.wrap_i64]; omega
        have ec : ((h : Int) : Int).toNat = jN := by omega
        have pc : (0 : Int) ≤ (h : Int) := by omega
        have bc : ((h : Int) : Int) < (d.size : Int) := by omega
        have rc : IntKind.i64.wrap ((h : Int) : Int) = (h : Int) := by rw [IntKind.wrap_i64]; omega
        obtain ⟨x, hx⟩ : ∃ x, x = d[pq]! := ⟨_, rfl⟩
        obtain ⟨y, hy⟩ : ∃ x, x = d[h]! := ⟨_, rfl⟩
        have la := SK.out.cl R0.out (by omega) (pq) (by omega)
        have lb := SK.out.cl R0.out (by omega) (h) (by omega)
        rw [← hx, ← hiN] at la
        rw [← hy, ← hjN] at lb
        have hc := SK.out.cmp HC.out (by omega) x y
        have hv : cf x y < 0 := by rw [hx, hy]; exact of_decide_eq_true hlv
        have hd : decide (cf x y < 0) = true := decide_eq_true hv
        clear hx hy hiN hjN
        go_wp2_with fail
        go_quiet_grown (first | (go_at_fn g; refine Calls.grown_of (hc _ _)))
        have S2 : Hid (SW enc w0 blk off d (grow (wr.drewN nq) osq)) := SK.out.grown nq osq
        clear la lb hc SK
        generalize grow (wr.drewN nq) osq = w2 at S2 ⊢
        clear nq osq
        clear ea ec
        go_wp2_with fail
        go_roundg (h - s)
        case measure => omega
        case rel => exact ⟨s, h, rfl, rfl, hi1, h1, by omega, Nat.le_refl _, HLO.out, Or.inr (by rw [show mid + m - h - 1 = pq by omega]; exact hlv), S2.out⟩
      | false =>
        obtain ⟨iN, hiN⟩ : ∃ q, q = pq := ⟨_, rfl⟩
        obtain ⟨jN, hjN⟩ : ∃ q, q = h := ⟨_, rfl⟩
        have ea : ((pq : Int) : Int).toNat = iN := by omega
        have pa : (0 : Int) ≤ (pq : Int) := by omega
        have ba : ((pq : Int) : Int) < (d.size : Int) := by omega
        have ra : IntKind.i64.wrap ((pq : Int) : Int) = (pq : Int) := by rw [IntKind.wrap_i64]; omega
        have ec : ((h : Int) : Int).toNat = jN := by omega
        have pc : (0 : Int) ≤ (h : Int) := by omega
        have bc : ((h : Int) : Int) < (d.size : Int) := by omega
        have rc : IntKind.i64.wrap ((h : Int) : Int) = (h : Int) := by rw [IntKind.wrap_i64]; omega
        obtain ⟨x, hx⟩ : ∃ x, x = d[pq]! := ⟨_, rfl⟩
        obtain ⟨y, hy⟩ : ∃ x, x = d[h]! := ⟨_, rfl⟩
        have la := SK.out.cl R0.out (by omega) (pq) (by omega)
        have lb := SK.out.cl R0.out (by omega) (h) (by omega)
        rw [← hx, ← hiN] at la
        rw [← hy, ← hjN] at lb
        have hc := SK.out.cmp HC.out (by omega) x y
        have hv : ¬ cf x y < 0 := by rw [hx, hy]; exact of_decide_eq_false hlv
        have hd : decide (cf x y < 0) = false := decide_eq_false hv
        clear hx hy hiN hjN
        go_wp2_with fail
        go_quiet_grown (first | (go_at_fn g; refine Calls.grown_of (hc _ _)))
        have S2 : Hid (SW enc w0 blk off d (grow (wr.drewN nq) osq)) := SK.out.grown nq osq
        clear la lb hc SK
        generalize grow (wr.drewN nq) osq = w2 at S2 ⊢
        clear nq osq
        clear ea ec
        go_wp2_with fail
        go_roundg (r - (h + 1))
        case measure => omega
        case rel => exact ⟨h + 1, r, by go_num, rfl, by omega, by omega, hj1, Nat.le_refl _, Or.inr (by rw [show mid + m - (h + 1) = pq by omega, Nat.add_sub_cancel]; exact hlv), HHI.out, S2.out⟩
    · obtain rfl : s = r := by omega
      have hltz : ¬ (s : Int) < (s : Int) := by omega
      obtain ⟨e, he⟩ : ∃ e, mid + m - s = e := ⟨_, rfl⟩
      have ze : (mid : Int) + (m : Int) - (s : Int) = (e : Int) := by omega
      have re : IntKind.i64.wrap ((mid : Int) + (m : Int) - (s : Int)) = (e : Int) := by rw [IntKind.wrap_i64]; omega
      -- mid < m: so s < m, mid < e
      have g4 : (s : Int) < (m : Int) := by omega
      have g5 : (mid : Int) < (e : Int) := by omega
      by_cases cs : s < mid
      · have g6 : (s : Int) < (mid : Int) := by omega
        have g7 : (m : Int) < (e : Int) := by omega
        have hcon := rotate_s (cap := cap) R0.out (.func (.func g) #[] cb) s m e a b d wr hs SK.out (by omega) (by omega) (by omega) h3 (by omega) hsz
        have HRo := Lib.hid hcon
        clear hcon
        go_wp2_with fail
        refine HRo.out.mono ?_
        rintro e4 w4 ⟨rfl, d4, k1, k2, k3⟩
        have S4 := Lib.hid k3
        have HP1 := Lib.hid k2
        have hs4 : d4.size = d.size := k1.1
        have HR1 := Lib.hid k1
        clear k1 k2 k3 SK HRo
        have HMid : Hid (Mid slt idn a s mid e b d4) := show Mid slt idn a s mid e b d4 from by
          have hr := HR1.out
          rw [← he] at hr ⊢
          exact sym_mid HST.out h3 HMD.out ham hmb HQ1.out HQ2.out HQA.out (by omega) (by omega) (by omega) (by omega) (by rw [he]; have h := HLO.out; rw [he] at h; rcases h with h | h; (first | (refine Or.inl ?_; omega) | (refine Or.inr (Or.inl ?_); omega)); exact Or.inr (Or.inr h)) (by rw [he]; have h := HHI.out; rw [he] at h; rcases h with h | h; (first | (refine Or.inl ?_; omega) | (refine Or.inr (Or.inl ?_); omega)); exact Or.inr (Or.inr h)) hr
        clear HR1
        -- s < mid and mid < e: what is merged on either side
        by_cases ca : a < s
        · have g1 : (a : Int) < (s : Int) := by omega
          by_cases cb2 : e < b
          · have g2 : (e : Int) < (b : Int) := by omega
            have hcon1 := IH.out a s mid d4 _ (by omega) (by rw [hs4]; exact hs) S4.out (by omega) (by omega) (by omega) HMid.out.l1 HMid.out.l2 HMid.out.al
            rw [hs4] at hcon1
            have HI1 := Lib.hid hcon1
            clear hcon1
            go_wp2_with fail
            refine HI1.out.mono ?_
            rintro e6 w6 ⟨rfl, d6, k1, k2, k3⟩
            have HK6 := Lib.hid (And.intro k1 (And.intro k2 k3))
            have hs6 : d6.size = d.size := k2.1.trans hs4
            clear k1 k2 k3
            have hq := Mid.right (by omega) HMid.out HK6.out.2.1
            have hcon2 := IH.out mid e b d6 _ (by omega) (by rw [hs6, hs]) HK6.out.2.2 (by omega) (by omega) (by rw [hs6]; omega) hq.1 hq.2.1 hq.2.2
            rw [hs6] at hcon2
            have HI2 := Lib.hid hcon2
            clear hcon2 hq
            go_wp2_with fail
            refine HI2.out.mono ?_
            rintro e5 w5 ⟨rfl, d5, k1, k2, k3⟩
            have HK := Lib.hid (And.intro k1 (And.intro k2 k3))
            clear k1 k2 k3
            go_wp2_with fail
            go_end0
            exact ⟨rfl, d5, sym_done (by omega) (by omega) (by omega) HMid.out HK6.out.2.1 HK6.out.1 HK.out.2.1 HK.out.1, permIn_trans _ _ _ a b (permIn_trans _ _ _ a b HP1.out (permIn_mono _ _ a mid a b (Nat.le_refl _) (by omega) (by omega) HK6.out.2.1)) (permIn_mono _ _ mid b a b (by omega) (Nat.le_refl _) (by rw [hs6]; omega) HK.out.2.1), HK.out.2.2⟩
          · have g2 : ¬ (e : Int) < (b : Int) := by omega
            have eb : e = b := by omega
            have hcon1 := IH.out a s mid d4 _ (by omega) (by rw [hs4]; exact hs) S4.out (by omega) (by omega) (by omega) HMid.out.l1 HMid.out.l2 HMid.out.al
            rw [hs4] at hcon1
            have HI1 := Lib.hid hcon1
            clear hcon1
            go_wp2_with fail
            refine HI1.out.mono ?_
            rintro e6 w6 ⟨rfl, d6, k1, k2, k3⟩
            have HK6 := Lib.hid (And.intro k1 (And.intro k2 k3))
            have hs6 : d6.size = d.size := k2.1.trans hs4
            clear k1 k2 k3
            -- no merge on the right: dX = d6, its world's fact HK6.out.2.2, its permutations HK6.out.2.1 (of d4 on the left), (permIn_trans _ _ _ a b HP1.out (permIn_mono _ _ a mid a b (Nat.le_refl _) (by omega) (by omega) HK6.out.2.1)) (of d), the left half sorted HK6.out.1, the right half (by have h := (Mid.right (by omega) HMid.out HK6.out.2.1).1; rw [eb] at h; exact h)
            go_wp2_with fail
            go_end0
            exact ⟨rfl, _, sym_done (by omega) (by omega) (by omega) HMid.out HK6.out.2.1 HK6.out.1 (permIn_refl _ _ _) (by have h := (Mid.right (by omega) HMid.out HK6.out.2.1).1; rw [eb] at h; exact h), (permIn_trans _ _ _ a b HP1.out (permIn_mono _ _ a mid a b (Nat.le_refl _) (by omega) (by omega) HK6.out.2.1)), HK6.out.2.2⟩
        · have g1 : ¬ (a : Int) < (s : Int) := by omega
          have hasq : a = s := by omega
          have HL4 : Hid (SortedIn slt a mid d4) := show SortedIn slt a mid d4 from by have h := HMid.out.l2; rw [← hasq] at h; exact h
          by_cases cb2 : e < b
          · have g2 : (e : Int) < (b : Int) := by omega
            have hq := Mid.right (by omega) HMid.out (permIn_refl d4 a mid)
            have hcon2 := IH.out mid e b d4 _ (by omega) (by rw [hs4, hs]) S4.out (by omega) (by omega) (by rw [hs4]; omega) hq.1 hq.2.1 hq.2.2
            rw [hs4] at hcon2
            have HI2 := Lib.hid hcon2
            clear hcon2 hq
            go_wp2_with fail
            refine HI2.out.mono ?_
            rintro e5 w5 ⟨rfl, d5, k1, k2, k3⟩
            have HK := Lib.hid (And.intro k1 (And.intro k2 k3))
            clear k1 k2 k3
            go_wp2_with fail
            go_end0
            exact ⟨rfl, d5, sym_done (by omega) (by omega) (by omega) HMid.out (permIn_refl d4 a mid) HL4.out HK.out.2.1 HK.out.1, permIn_trans _ _ _ a b HP1.out (permIn_mono _ _ mid b a b (by omega) (Nat.le_refl _) (by rw [hs4]; omega) HK.out.2.1), HK.out.2.2⟩
          · have g2 : ¬ (e : Int) < (b : Int) := by omega
            have eb : e = b := by omega
            -- no merge on the right: dX = d4, its world's fact S4.out, its permutations (permIn_refl d4 a mid) (of d4 on the left), HP1.out (of d), the left half sorted HL4.out, the right half (by have h := HMid.out.r1; rw [eb] at h; exact h)
            go_wp2_with fail
            go_end0
            exact ⟨rfl, _, sym_done (by omega) (by omega) (by omega) HMid.out (permIn_refl d4 a mid) HL4.out (permIn_refl _ _ _) (by have h := HMid.out.r1; rw [eb] at h; exact h), HP1.out, S4.out⟩
      · have g6 : ¬ (s : Int) < (mid : Int) := by omega
        have g7 : ¬ (m : Int) < (e : Int) := by omega
        have g1 : (a : Int) < (s : Int) := by omega
        have g2 : (e : Int) < (b : Int) := by omega
        obtain ⟨d4, hd4⟩ : ∃ d4, d4 = d := ⟨_, rfl⟩
        have hs4 : d4.size = d.size := by rw [hd4]
        have HR1 : Hid (RotS d s m e d4) := show RotS d s m e d4 from by rw [hd4]; exact rotS_none (Or.inr (by omega)) (by omega) (by omega)
        have HP1 : Hid (PermIn a b d d4) := show PermIn a b d d4 from by rw [hd4]; exact permIn_refl _ _ _
        have S4 : Hid (SW enc w0 blk off d4 wr) := show SW enc w0 blk off d4 wr from by rw [hd4]; exact SK.out
        clear hd4 SK
        have HMid : Hid (Mid slt idn a s mid e b d4) := show Mid slt idn a s mid e b d4 from by
          have hr := HR1.out
          rw [← he] at hr ⊢
          exact sym_mid HST.out h3 HMD.out ham hmb HQ1.out HQ2.out HQA.out (by omega) (by omega) (by omega) (by omega) (by rw [he]; have h := HLO.out; rw [he] at h; rcases h with h | h; (first | (refine Or.inl ?_; omega) | (refine Or.inr (Or.inl ?_); omega)); exact Or.inr (Or.inr h)) (by rw [he]; have h := HHI.out; rw [he] at h; rcases h with h | h; (first | (refine Or.inl ?_; omega) | (refine Or.inr (Or.inl ?_); omega)); exact Or.inr (Or.inr h)) hr
        clear HR1
        have HL4 : Hid (SortedIn slt a mid d4) := show SortedIn slt a mid d4 from by have h := HMid.out.l1; rw [show s = mid by omega] at h; exact h
        have hq := Mid.right (by omega) HMid.out (permIn_refl d4 a mid)
        have hcon2 := IH.out mid e b d4 _ (by omega) (by rw [hs4, hs]) S4.out (by omega) (by omega) (by rw [hs4]; omega) hq.1 hq.2.1 hq.2.2
        rw [hs4] at hcon2
        have HI2 := Lib.hid hcon2
        clear hcon2 hq
        go_wp2_with fail
        refine HI2.out.mono ?_
        rintro e5 w5 ⟨rfl, d5, k1, k2, k3⟩
        have HK := Lib.hid (And.intro k1 (And.intro k2 k3))
        clear k1 k2 k3
        go_wp2_with fail
        go_end0
        exact ⟨rfl, d5, sym_done (by omega) (by omega) (by omega) HMid.out (permIn_refl d4 a mid) HL4.out HK.out.2.1 HK.out.1, permIn_trans _ _ _ a b HP1.out (permIn_mono _ _ mid b a b (by omega) (Nat.le_refl _) (by rw [hs4]; omega) HK.out.2.1), HK.out.2.2⟩
end Go.Proofs.YtmglbegbijofkaaGreatDoor
namespace Go.Proofs.YtmglbegbijofkaaGreatDoor
open Go.RowKit Go.Shelf Go.Sort Go.Lib
variable {α : Type} [Inhabited α] {enc : α → Value} {blk off cap : Nat} {d0 : Array α} {w0 : World}
set_option maxHeartbeats 64000000 in
set_option maxRecDepth 1000000 in
theorem sym_case2 (R : Row1 enc w0 blk off d0) {cf : α → α → Int} {slt : α → α → Bool} {idn : α → Nat} (ST : Stab (ltOf cf) slt idn) (g : Nat) (cb : Array Value) (eg : ∀ args w, (callFunc g args).run Tryz.prog w = .ok (.enter g args) w) (hcmp : CmpLays1 Tryz.prog g cb enc cf blk off d0.size w0)
    (a m b mid : Nat) (d : Array α) (w : World) (hs : d0.size = d.size) (S : SW enc w0 blk off d w) (hm1 : a + 1 < m) (hb1 : m + 1 < b) (h3 : b ≤ d.size) (hsz : d.size < 4611686018427387904) (q1 : SortedIn slt a m d) (q2 : SortedIn slt m b d) (qa : Asc idn a m b d) (hmid : mid = (a + b) / 2) (hmm : m ≤ mid)
    (hIH : ∀ (a2 m2 b2 : Nat) (d2 : Array α) (w2 : World), b2 - a2 < b - a → d0.size = d2.size → SW enc w0 blk off d2 w2 → a2 < m2 → m2 < b2 → b2 ≤ d2.size → SortedIn slt a2 m2 d2 → SortedIn slt m2 b2 d2 → Asc idn a2 m2 b2 d2 → Calls Tryz.prog 179 #[.slice (some ⟨blk, off, none⟩) d2.size cap, .int .i64 a2, .int .i64 m2, .int .i64 b2, .func (.func g) #[] cb] w2 (SymPost enc w0 blk off slt a2 b2 d2)) :
    Calls Tryz.prog 179 #[.slice (some ⟨blk, off, none⟩) d.size cap, .int .i64 a, .int .i64 m, .int .i64 b, .func (.func g) #[] cb] w (SymPost enc w0 blk off slt a b d) := by
  have mixed : Tryz.prog.follows Departure.mixedOrders = true := by kernel_rfl
  have hcl0 := R.hO.cells
  simp only [Value.cells] at hcl0
  have hst := R.hO.store Tryz.prog
  have SK : Hid (SW enc w0 blk off d w) := S
  have R0 := Lib.hid R
  have HC := Lib.hid hcmp
  have HST := Lib.hid ST
  have HQ1 := Lib.hid q1
  have HQ2 := Lib.hid q2
  have HQA := Lib.hid qa
  have IH := Lib.hid hIH
  have HMD := Lib.hid hmid
  have em : ((a : Int) + (b : Int)) / 2 = (mid : Int) := by omega
  have hm2 : a < mid := by omega
  have hm3 : mid < b := by omega
  have hml : mid + mid ≤ a + b := by omega
  have hmu : a + b ≤ mid + mid + 1 := by omega
  have ham : a < m := by omega
  have hmb : m < b := by omega
  have e0 : ¬ ((m : Int) - (a : Int) = 1) := by omega
  have e1 : ¬ ((b : Int) - (m : Int) = 1) := by omega
  have e0' : ((m : Int) - (a : Int) == 1) = false := by simpa using e0
  have e1' : ((b : Int) - (m : Int) == 1) = false := by simpa using e1
  clear S R hcmp ST q1 q2 qa hIH hmid
  have g0 : ¬ (mid : Int) < (m : Int) := by omega
  obtain ⟨s0, hs01, hs02⟩ : ∃ s0, s0 ≤ a ∧ a ≤ s0 := ⟨a, by omega, by omega⟩
  obtain ⟨r0, hr01, hr02⟩ : ∃ r0, r0 ≤ m ∧ m ≤ r0 := ⟨m, by omega, by omega⟩
  go_enter Tryz.func179, Tryz.ntmps179
  go_wp2_with fail
  go_loopg [20, 21] (b - a) (fun g1 v u wr => ∃ (s r : Nat), v = .int .i64 s ∧ u = .int .i64 r ∧ s0 ≤ s ∧ s ≤ r ∧ r ≤ r0 ∧ r - s ≤ g1 ∧ Hid (s = s0 ∨ ltOf cf d[mid + m - s]! d[s - 1]! = false) ∧ Hid (r = r0 ∨ ltOf cf d[mid + m - r - 1]! d[r]! = true) ∧ Hid (SW enc w0 blk off d wr))
  case atStart => exact ⟨a, m, by go_num, by go_num, by omega, by omega, by omega, by omega, Or.inl (by omega), Or.inl (by omega), SK.out⟩
  case round =>
    clear SK
    obtain ⟨s, r, rfl, rfl, hi1, hij, hj1, hg, HLO, HHI, SK⟩ := hrel
    by_cases hlt : s < r
    · have hltz : (s : Int) < (r : Int) := by omega
      obtain ⟨h, hh⟩ : ∃ h, h = (s + r) / 2 := ⟨_, rfl⟩
      have eh : ((s : Int) + (r : Int)) / 2 = (h : Int) := by omega
      have h1 : s ≤ h := by omega
      have h2 : h < r := by omega
      clear hh
      obtain ⟨pq, hp1, hp2⟩ : ∃ pq, pq + h + 1 ≤ mid + m ∧ mid + m ≤ pq + h + 1 := ⟨mid + m - h - 1, by omega, by omega⟩
      have ep : (mid : Int) + (m : Int) - 1 - (h : Int) = (pq : Int) := by omega
      cases hlv : ltOf cf d[pq]! d[h]! with
      | true =>
        obtain ⟨iN, hiN⟩ : ∃ q, q = pq := ⟨_, rfl⟩
        obtain ⟨jN, hjN⟩ : ∃ q, q = h := ⟨_, rfl⟩
        have ea : ((pq : Int) : Int).toNat = iN := by omega
        have pa : (0 : Int) ≤ (pq : Int) := by omega
        have ba : ((pq : Int) : Int) < (d.size : Int) := by omega
        have ra : IntKind.i64.wrap ((pq : Int) : Int) = (pq : Int) := by rw [IntKind.wrap_i64]; omega
        have ec : ((h : Int) : Int).toNat = jN := by omega
        have pc : (0 : Int) ≤ (h : Int) := by omega
        have bc : ((h : Int) : Int) < (d.size : Int) := by omega
        have rc : IntKind.i64.wrap ((h : Int) : Int) = (h : Int) := by rw [IntKind.wrap_i64]; omega
        obtain ⟨x, hx⟩ : ∃ x, x = d[pq]! := ⟨_, rfl⟩
        obtain ⟨y, hy⟩ : ∃ x, x = d[h]! := ⟨_, rfl⟩
        have la := SK.out.cl R0.out (by omega) (pq) (by omega)
        have lb := SK.out.cl R0.out (by omega) (h) (by omega)
        rw [← hx, ← hiN] at la
        rw [← hy, ← hjN] at lb
        have hc := SK.out.cmp HC.out (by omega) x y
        have hv : cf x y < 0 := by rw [hx, hy]; exact of_decide_eq_true hlv
        have hd : decide (cf x y < 0) = true := decide_eq_true hv
        clear hx hy hiN hjN
        go_wp2_with fail
        go_quiet_grown (first | (go_at_fn g; refine Calls.grown_of (hc _ _)))
        have S2 : Hid (SW enc w0 blk off d (grow (wr.drewN nq) osq)) := SK.out.grown nq osq
        clear la lb hc SK
        generalize grow (wr.drewN nq) osq = w2 at S2 ⊢
        clear nq osq
        clear ea ec
        go_wp2_with fail
        go_roundg (h - s)
        case measure => omega
        case rel => exact ⟨s, h, rfl, rfl, hi1, h1, by omega, Nat.le_refl _, HLO.out, Or.inr (by rw [show mid + m - h - 1 = pq by omega]; exact hlv), S2.out⟩
      | false =>
        obtain ⟨iN, hiN⟩ : ∃ q, q = pq := ⟨_, rfl⟩
        obtain ⟨jN, hjN⟩ : ∃ q, q = h := ⟨_, rfl⟩
        have ea : ((pq : Int) : Int).toNat = iN := by omega
        have pa : (0 : Int) ≤ (pq : Int) := by omega
        have ba : ((pq : Int) : Int) < (d.size : Int) := by omega
        have ra : IntKind.i64.wrap ((pq : Int) : Int) = (pq : Int) := by rw [IntKind.wrap_i64]; omega
        have ec : ((h : Int) : Int).toNat = jN := by omega
        have pc : (0 : Int) ≤ (h : Int) := by omega
        have bc : ((h : Int) : Int) < (d.size : Int) := by omega
        have rc : IntKind.i64.wrap ((h : Int) : Int) = (h : Int) := by rw [IntKind.wrap_i64]; omega
        obtain ⟨x, hx⟩ : ∃ x, x = d[pq]! := ⟨_, rfl⟩
        obtain ⟨y, hy⟩ : ∃ x, x = d[h]! := ⟨_, rfl⟩
        have la := SK.out.cl R0.out (by omega) (pq) (by omega)
        have lb := SK.out.cl R0.out (by omega) (h) (by omega)
        rw [← hx, ← hiN] at la
        rw [← hy, ← hjN] at lb
        have hc := SK.out.cmp HC.out (by omega) x y
        have hv : ¬ cf x y < 0 := by rw [hx, hy]; exact of_decide_eq_false hlv
        have hd : decide (cf x y < 0) = false := decide_eq_false hv
        clear hx hy hiN hjN
        go_wp2_with fail
        go_quiet_grown (first | (go_at_fn g; refine Calls.grown_of (hc _ _)))
        have S2 : Hid (SW enc w0 blk off d (grow (wr.drewN nq) osq)) := SK.out.grown nq osq
        clear la lb hc SK
        generalize grow (wr.drewN nq) osq = w2 at S2 ⊢
        clear nq osq
        clear ea ec
        go_wp2_with fail
        go_roundg (r - (h + 1))
        case measure => omega
        case rel => exact ⟨h + 1, r, by go_num, rfl, by omega, by omega, hj1, Nat.le_refl _, Or.inr (by rw [show mid + m - (h + 1) = pq by omega, Nat.add_sub_cancel]; exact hlv), HHI.out, S2.out⟩
    · obtain rfl : s = r := by omega
      have hltz : ¬ (s : Int) < (s : Int) := by omega
      obtain ⟨e, he⟩ : ∃ e, mid + m - s = e := ⟨_, rfl⟩
      have ze : (mid : Int) + (m : Int) - (s : Int) = (e : Int) := by omega
      have re : IntKind.i64.wrap ((mid : Int) + (m : Int) - (s : Int)) = (e : Int) := by rw [IntKind.wrap_i64]; omega
      -- m ≤ mid
      by_cases cs : s < m
      · have g4 : (s : Int) < (m : Int) := by omega
        have g5 : (mid : Int) < (e : Int) := by omega
        have g6 : (s : Int) < (mid : Int) := by omega
        have g7 : (m : Int) < (e : Int) := by omega
        have hcon := rotate_s (cap := cap) R0.out (.func (.func g) #[] cb) s m e a b d wr hs SK.out (by omega) (by omega) (by omega) h3 (by omega) hsz
        have HRo := Lib.hid hcon
        clear hcon
        go_wp2_with fail
        refine HRo.out.mono ?_
        rintro e4 w4 ⟨rfl, d4, k1, k2, k3⟩
        have S4 := Lib.hid k3
        have HP1 := Lib.hid k2
        have hs4 : d4.size = d.size := k1.1
        have HR1 := Lib.hid k1
        clear k1 k2 k3 SK HRo
        have HMid : Hid (Mid slt idn a s mid e b d4) := show Mid slt idn a s mid e b d4 from by
          have hr := HR1.out
          rw [← he] at hr ⊢
          exact sym_mid HST.out h3 HMD.out ham hmb HQ1.out HQ2.out HQA.out (by omega) (by omega) (by omega) (by omega) (by rw [he]; have h := HLO.out; rw [he] at h; rcases h with h | h; (first | (refine Or.inl ?_; omega) | (refine Or.inr (Or.inl ?_); omega)); exact Or.inr (Or.inr h)) (by rw [he]; have h := HHI.out; rw [he] at h; rcases h with h | h; (first | (refine Or.inl ?_; omega) | (refine Or.inr (Or.inl ?_); omega)); exact Or.inr (Or.inr h)) hr
        clear HR1
        -- s < mid and mid < e: what is merged on either side
        by_cases ca : a < s
        · have g1 : (a : Int) < (s : Int) := by omega
          by_cases cb2 : e < b
          · have g2 : (e : Int) < (b : Int) := by omega
            have hcon1 := IH.out a s mid d4 _ (by omega) (by rw [hs4]; exact hs) S4.out (by omega) (by omega) (by omega) HMid.out.l1 HMid.out.l2 HMid.out.al
            rw [hs4] at hcon1
            have HI1 := Lib.hid hcon1
            clear hcon1
            go_wp2_with fail
            refine HI1.out.mono ?_
            rintro e6 w6 ⟨rfl, d6, k1, k2, k3⟩
            have HK6 := Lib.hid (And.intro k1 (And.intro k2 k3))
            have hs6 : d6.size = d.size := k2.1.trans hs4
            clear k1 k2 k3
            have hq := Mid.right (by omega) HMid.out HK6.out.2.1
            have hcon2 := IH.out mid e b d6 _ (by omega) (by rw [hs6, hs]) HK6.out.2.2 (by omega) (by omega) (by rw [hs6]; omega) hq.1 hq.2.1 hq.2.2
            rw [hs6] at hcon2
            have HI2 := Lib.hid hcon2
            clear hcon2 hq
            go_wp2_with fail
            refine HI2.out.mono ?_
            rintro e5 w5 ⟨rfl, d5, k1, k2, k3⟩
            have HK := Lib.hid (And.intro k1 (And.intro k2 k3))
            clear k1 k2 k3
            go_wp2_with fail
            go_end0
            exact ⟨rfl, d5, sym_done (by omega) (by omega) (by omega) HMid.out HK6.out.2.1 HK6.out.1 HK.out.2.1 HK.out.1, permIn_trans _ _ _ a b (permIn_trans _ _ _ a b HP1.out (permIn_mono _ _ a mid a b (Nat.le_refl _) (by omega) (by omega) HK6.out.2.1)) (permIn_mono _ _ mid b a b (by omega) (Nat.le_refl _) (by rw [hs6]; omega) HK.out.2.1), HK.out.2.2⟩
          · have g2 : ¬ (e : Int) < (b : Int) := by omega
            have eb : e = b := by omega
            have hcon1 := IH.out a s mid d4 _ (by omega) (by rw [hs4]; exact hs) S4.out (by omega) (by omega) (by omega) HMid.out.l1 HMid.out.l2 HMid.out.al
            rw [hs4] at hcon1
            have HI1 := Lib.hid hcon1
            clear hcon1
            go_wp2_with fail
            refine HI1.out.mono ?_
            rintro e6 w6 ⟨rfl, d6, k1, k2, k3⟩
            have HK6 := Lib.hid (And.intro k1 (And.intro k2 k3))
            have hs6 : d6.size = d.size := k2.1.trans hs4
            clear k1 k2 k3
            -- no merge on the right: dX = d6, its world's fact HK6.out.2.2, its permutations HK6.out.2.1 (of d4 on the left), (permIn_trans _ _ _ a b HP1.out (permIn_mono _ _ a mid a b (Nat.le_refl _) (by omega) (by omega) HK6.out.2.1)) (of d), the left half sorted HK6.out.1, the right half (by have h := (Mid.right (by omega) HMid.out HK6.out.2.1).1; rw [eb] at h; exact h)
            go_wp2_with fail
            go_end0
            exact ⟨rfl, _, sym_done (by omega) (by omega) (by omega) HMid.out HK6.out.2.1 HK6.out.1 (permIn_refl _ _ _) (by have h := (Mid.right (by omega) HMid.out HK6.out.2.1).1; rw [eb] at h; exact h), (permIn_trans _ _ _ a b HP1.out (permIn_mono _ _ a mid a b (Nat.le_refl _) (by omega) (by omega) HK6.out.2.1)), HK6.out.2.2⟩
        · have g1 : ¬ (a : Int) < (s : Int) := by omega
          have hasq : a = s := by omega
          have HL4 : Hid (SortedIn slt a mid d4) := show SortedIn slt a mid d4 from by have h := HMid.out.l2; rw [← hasq] at h; exact h
          by_cases cb2 : e < b
          · have g2 : (e : Int) < (b : Int) := by omega
            have hq := Mid.right (by omega) HMid.out (permIn_refl d4 a mid)
            have hcon2 := IH.out mid e b d4 _ (by omega) (by rw [hs4, hs]) S4.out (by omega) (by omega) (by rw [hs4]; omega) hq.1 hq.2.1 hq.2.2
            rw [hs4] at hcon2
            have HI2 := Lib.hid hcon2
            clear hcon2 hq
            go_wp2_with fail
            refine HI2.out.mono ?_
            rintro e5 w5 ⟨rfl, d5, k1, k2, k3⟩
            have HK := Lib.hid (And.intro k1 (And.intro k2 k3))
            clear k1 k2 k3
            go_wp2_with fail
            go_end0
            exact ⟨rfl, d5, sym_done (by omega) (by omega) (by omega) HMid.out (permIn_refl d4 a mid) HL4.out HK.out.2.1 HK.out.1, permIn_trans _ _ _ a b HP1.out (permIn_mono _ _ mid b a b (by omega) (Nat.le_refl _) (by rw [hs4]; omega) HK.out.2.1), HK.out.2.2⟩
          · have g2 : ¬ (e : Int) < (b : Int) := by omega
            have eb : e = b := by omega
            -- no merge on the right: dX = d4, its world's fact S4.out, its permutations (permIn_refl d4 a mid) (of d4 on the left), HP1.out (of d), the left half sorted HL4.out, the right half (by have h := HMid.out.r1; rw [eb] at h; exact h)
            go_wp2_with fail
            go_end0
            exact ⟨rfl, _, sym_done (by omega) (by omega) (by omega) HMid.out (permIn_refl d4 a mid) HL4.out (permIn_refl _ _ _) (by have h := HMid.out.r1; rw [eb] at h; exact h), HP1.out, S4.out⟩
      · have g4 : ¬ (s : Int) < (m : Int) := by omega
        have g5 : ¬ (mid : Int) < (e : Int) := by omega
        have g1 : (a : Int) < (s : Int) := by omega
        obtain ⟨d4, hd4⟩ : ∃ d4, d4 = d := ⟨_, rfl⟩
        have hs4 : d4.size = d.size := by rw [hd4]
        have HR1 : Hid (RotS d s m e d4) := show RotS d s m e d4 from by rw [hd4]; exact rotS_none (Or.inl (by omega)) (by omega) (by omega)
        have HP1 : Hid (PermIn a b d d4) := show PermIn a b d d4 from by rw [hd4]; exact permIn_refl _ _ _
        have S4 : Hid (SW enc w0 blk off d4 wr) := show SW enc w0 blk off d4 wr from by rw [hd4]; exact SK.out
        clear hd4 SK
        have HMid : Hid (Mid slt idn a s mid e b d4) := show Mid slt idn a s mid e b d4 from by
          have hr := HR1.out
          rw [← he] at hr ⊢
          exact sym_mid HST.out h3 HMD.out ham hmb HQ1.out HQ2.out HQA.out (by omega) (by omega) (by omega) (by omega) (by rw [he]; have h := HLO.out; rw [he] at h; rcases h with h | h; (first | (refine Or.inl ?_; omega) | (refine Or.inr (Or.inl ?_); omega)); exact Or.inr (Or.inr h)) (by rw [he]; have h := HHI.out; rw [he] at h; rcases h with h | h; (first | (refine Or.inl ?_; omega) | (refine Or.inr (Or.inl ?_); omega)); exact Or.inr (Or.inr h)) hr
        clear HR1
        have em2 : e = mid := by omega
        by_cases cm : s < mid
        · have g6 : (s : Int) < (mid : Int) := by omega
          have hcon1 := IH.out a s mid d4 _ (by omega) (by rw [hs4]; exact hs) S4.out (by omega) (by omega) (by omega) HMid.out.l1 HMid.out.l2 HMid.out.al
          rw [hs4] at hcon1
          have HI1 := Lib.hid hcon1
          clear hcon1
          go_wp2_with fail
          refine HI1.out.mono ?_
          rintro e6 w6 ⟨rfl, d6, k1, k2, k3⟩
          have HK6 := Lib.hid (And.intro k1 (And.intro k2 k3))
          have hs6 : d6.size = d.size := k2.1.trans hs4
          clear k1 k2 k3
          -- no merge on the right: dX = d6, its world's fact HK6.out.2.2, its permutations HK6.out.2.1 (of d4 on the left), (permIn_trans _ _ _ a b HP1.out (permIn_mono _ _ a mid a b (Nat.le_refl _) (by omega) (by omega) HK6.out.2.1)) (of d), the left half sorted HK6.out.1, the right half (by have h := (Mid.right (by omega) HMid.out HK6.out.2.1).2.1; rw [em2] at h; exact h)
          go_wp2_with fail
          go_end0
          exact ⟨rfl, _, sym_done (by omega) (by omega) (by omega) HMid.out HK6.out.2.1 HK6.out.1 (permIn_refl _ _ _) (by have h := (Mid.right (by omega) HMid.out HK6.out.2.1).2.1; rw [em2] at h; exact h), (permIn_trans _ _ _ a b HP1.out (permIn_mono _ _ a mid a b (Nat.le_refl _) (by omega) (by omega) HK6.out.2.1)), HK6.out.2.2⟩
        · have g6 : ¬ (s : Int) < (mid : Int) := by omega
          have HL4 : Hid (SortedIn slt a mid d4) := show SortedIn slt a mid d4 from by have h := HMid.out.l1; rw [show s = mid by omega] at h; exact h
          -- no merge on the right: dX = d4, its world's fact S4.out, its permutations (permIn_refl d4 a mid) (of d4 on the left), HP1.out (of d), the left half sorted HL4.out, the right half (by have h := HMid.out.r2; rw [em2] at h; exact h)
          go_wp2_with fail
          go_end0
          exact ⟨rfl, _, sym_done (by omega) (by omega) (by omega) HMid.out (permIn_refl d4 a mid) HL4.out (permIn_refl _ _ _) (by have h := HMid.out.r2; rw [em2] at h; exact h), HP1.out, S4.out⟩
end Go.Proofs.YtmglbegbijofkaaGreatDoor
namespace Go.Proofs.YtmglbegbijofkaaGreatDoor
open Go.RowKit Go.Shelf Go.Sort Go.Lib
variable {α : Type} [Inhabited α] {enc : α → Value} {blk off cap : Nat} {d0 : Array α} {w0 : World}
theorem symMerge_s (R : Row1 enc w0 blk off d0) {cf : α → α → Int} {slt : α → α → Bool} {idn : α → Nat} (ST : Stab (ltOf cf) slt idn) (g : Nat) (cb : Array Value) (eg : ∀ args w, (callFunc g args).run Tryz.prog w = .ok (.enter g args) w) (hcmp : CmpLays1 Tryz.prog g cb enc cf blk off d0.size w0) (hsz : d0.size < 4611686018427387904) :
    ∀ (N a m b : Nat) (d : Array α) (w : World), b - a ≤ N → d0.size = d.size → SW enc w0 blk off d w → a < m → m < b → b ≤ d.size → SortedIn slt a m d → SortedIn slt m b d → Asc idn a m b d →
    Calls Tryz.prog 179 #[.slice (some ⟨blk, off, none⟩) d.size cap, .int .i64 a, .int .i64 m, .int .i64 b, .func (.func g) #[] cb] w (SymPost enc w0 blk off slt a b d)
  | 0, a, m, b, d, w, hN, _, _, h1, h2, _, _, _, _ => by omega
  | N + 1, a, m, b, d, w, hN, hs, S, ham, hmb, h3, q1, q2, qa => by
    by_cases hm1 : m = a + 1
    · exact sym_left R ST g cb eg hcmp a m b d w hs S hm1 hmb h3 (by omega) q2 qa
    · by_cases hb1 : b = m + 1
      · exact sym_right R ST g cb eg hcmp a m b d w hs S (by omega) hb1 h3 (by omega) q1 qa
      · have hIH : ∀ (a2 m2 b2 : Nat) (d2 : Array α) (w2 : World), b2 - a2 < b - a → d0.size = d2.size → SW enc w0 blk off d2 w2 → a2 < m2 → m2 < b2 → b2 ≤ d2.size → SortedIn slt a2 m2 d2 → SortedIn slt m2 b2 d2 → Asc idn a2 m2 b2 d2 → Calls Tryz.prog 179 #[.slice (some ⟨blk, off, none⟩) d2.size cap, .int .i64 a2, .int .i64 m2, .int .i64 b2, .func (.func g) #[] cb] w2 (SymPost enc w0 blk off slt a2 b2 d2) := fun a2 m2 b2 d2 w2 hlt => symMerge_s R ST g cb eg hcmp hsz N a2 m2 b2 d2 w2 (by omega)
        by_cases hmm : (a + b) / 2 < m
        · exact sym_case1 R ST g cb eg hcmp a m b _ d w hs S (by omega) (by omega) h3 (by omega) q1 q2 qa rfl hmm hIH
        · exact sym_case2 R ST g cb eg hcmp a m b _ d w hs S (by omega) (by omega) h3 (by omega) q1 q2 qa rfl (by omega) hIH
end Go.Proofs.YtmglbegbijofkaaGreatDoor
