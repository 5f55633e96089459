import Derived.Test.YtmglbegbijofkaaGreatDoorQ11
import Derived.Test.YtmglbegbijofkaaGreatDoorQ07
set_option linter.unusedVariables false
set_option linter.unusedSimpArgs false
namespace Go.Proofs.YtmglbegbijofkaaGreatDoor
open Go.RowKit Go.Shelf Go.Sort Go.Lib
variable {α : Type} [Inhabited α] {enc : α → Value} {blk off cap : Nat} {d0 : Array α} {w0 : World}
set_option maxHeartbeats 16000000 in
set_option maxRecDepth 1000000 in
theorem stable_s (R : Row1 enc w0 blk off d0) {cf : α → α → Int} {slt : α → α → Bool} {idn : α → Nat} (ST : Stab (ltOf cf) slt idn) (g : Nat) (cb : Array Value) (eg : ∀ args w, (callFunc g args).run Tryz.prog w = .ok (.enter g args) w) (hcmp : CmpLays1 Tryz.prog g cb enc cf blk off d0.size w0)
    (d : Array α) (w : World) (hs : d0.size = d.size) (S : SW enc w0 blk off d w) (hsz : d.size ≤ 1000000) (hid : ∀ i j, i < j → j < d.size → idn d[i]! < idn d[j]!) :
    Calls Tryz.prog 143 #[.slice (some ⟨blk, off, none⟩) d.size cap, .int .i64 d.size, .func (.func g) #[] cb] w (SymPost enc w0 blk off slt 0 d.size d) := by
  have HI : Hid (∀ (a b : Nat) (dk : Array α) (w : World), d0.size = dk.size → SW enc w0 blk off dk w → a ≤ b → b ≤ dk.size → Calls Tryz.prog 178 #[.slice (some ⟨blk, off, none⟩) d.size cap, .int .i64 a, .int .i64 b, .func (.func g) #[] cb] w fun e w' => e = .returned (.tuple #[]) ∧ SW enc w0 blk off (Sort.insertionSort (ltOf cf) dk a b) w') := show ∀ _ _ _ _, _ from fun a b dk w h1 h2 h3 h4 => by
    have h := Any.insertionSortCmpFunc_s Tryz.insertInts enc cf g cb blk off cap a b d0 dk w0 w eg hcmp R h1 h2 h3 h4 (by omega)
    rw [show dk.size = d.size by omega] at h
    exact h
  have HM : Hid (∀ (a m b : Nat) (dk : Array α) (w : World), d0.size = dk.size → SW enc w0 blk off dk w → a < m → m < b → b ≤ dk.size → SortedIn slt a m dk → SortedIn slt m b dk → Asc idn a m b dk → Calls Tryz.prog 179 #[.slice (some ⟨blk, off, none⟩) d.size cap, .int .i64 a, .int .i64 m, .int .i64 b, .func (.func g) #[] cb] w (SymPost enc w0 blk off slt a b dk)) := show ∀ _ _ _ _ _, _ from fun a m b dk w h1 h2 h3 h4 h5 h6 h7 h8 => by
    have h := symMerge_s (cap := cap) R ST g cb eg hcmp (by omega) (b - a) a m b dk w (Nat.le_refl _) h1 h2 h3 h4 h5 h6 h7 h8
    rw [show dk.size = d.size by omega] at h
    exact h
  have S0 := Lib.hid S
  have HST := Lib.hid ST
  have HR0 := Lib.hid (Runs.start (slt := slt) (n := d.size) hid)
  unfold SymPost at HM
  clear S R hcmp ST hid eg
  obtain ⟨n, hn⟩ : ∃ n, d.size = n := ⟨_, rfl⟩
  rw [hn] at HI HM HR0 hsz hs ⊢
  go_enter Tryz.func143, Tryz.ntmps143
  go_wp2_with fail
  go_loopg [7, 8] n (fun g1 v u wr => ∃ (t A : Nat) (dk : Array α), Hid (A = t * 20) ∧ v = .int .i64 A ∧ u = .int .i64 ((A : Int) + 20) ∧ A ≤ n ∧ n - A ≤ g1 ∧ Hid (Runs slt idn n (bdI (t * 20)) dk) ∧ Hid (PermIn 0 n d dk) ∧ Hid (SW enc w0 blk off dk wr))
  case atStart => exact ⟨0, 0, d, rfl, rfl, rfl, Nat.zero_le _, by omega, HR0.out.congr (fun c => ⟨fun _ => Or.inr (by omega), fun _ => trivial⟩), permIn_refl d 0 n, S0.out⟩
  case round =>
    clear S0 HR0
    obtain ⟨t, A, dk, HA, rfl, rfl, hA, hg, HRN, HP, SK⟩ := hrel
    have hsk : dk.size = n := HP.out.1.trans hn
    by_cases hlt : A + 20 ≤ n
    · have hltz : (A : Int) + 20 ≤ (n : Int) := by omega
      have hcon := HI.out A (A + 20) dk wr (by omega) SK.out (by omega) (by omega)
      rw [show ((A + 20 : Nat) : Int) = (A : Int) + 20 by omega] at hcon
      have HC1 := Lib.hid hcon
      have HIS := Lib.hid (ins_stable HST.out A (A + 20) dk (by omega) (by omega) (fun p q h1 h2 h3 => HRN.out.asc q (Or.inr (by have := HA.out; omega)) p q (Nat.zero_le _) h2 (Nat.le_refl _) (by omega)))
      clear hcon
      go_wp2_with fail
      refine HC1.out.mono ?_
      rintro e w2 ⟨rfl, hs2⟩
      have S2 := Lib.hid hs2
      clear hs2
      go_wp2_with fail
      go_roundg (n - (A + 20))
      case measure => omega
      case rel => exact ⟨t + 1, A + 20, _, show _ = _ from by have := HA.out; omega, by go_num, by go_num, hlt, Nat.le_refl _, by have h := HA.out; have h2 := HIS.out; rw [h] at h2; rw [h]; exact runs_block HRN.out (by omega) (by omega) h2.1 h2.2, permIn_trans _ _ _ 0 n HP.out (permIn_mono _ _ A (A + 20) 0 n (Nat.zero_le _) hlt (by omega) HIS.out.1), S2.out⟩
    · have hltz : ¬ (A : Int) + 20 ≤ (n : Int) := by omega
      have HC1 := Lib.hid (HI.out A n dk wr (by omega) SK.out (by omega) (by omega))
      have HIS := Lib.hid (ins_stable HST.out A n dk (by omega) (by omega) (fun p q h1 h2 h3 => HRN.out.asc q (Or.inr (by have := HA.out; omega)) p q (Nat.zero_le _) h2 (Nat.le_refl _) (by omega)))
      go_wp2_with fail
      refine HC1.out.mono ?_
      rintro e w2 ⟨rfl, hs2⟩
      have S2 := Lib.hid hs2
      have HRP : Hid (Runs slt idn n (bdP 20 0) (Sort.insertionSort (ltOf cf) dk A n)) := show Runs _ _ _ _ _ from by have h := HA.out; have h2 := HIS.out; rw [h] at h2; rw [h]; exact runs_block_last HRN.out (by omega) (by omega) (by omega) h2.1 h2.2
      have HP2 : Hid (PermIn 0 n d (Sort.insertionSort (ltOf cf) dk A n)) := show PermIn _ _ _ _ from permIn_trans _ _ _ 0 n HP.out (permIn_mono _ _ A n 0 n (Nat.zero_le _) (Nat.le_refl _) (by omega) HIS.out.1)
      generalize Sort.insertionSort (ltOf cf) dk A n = d2 at *
      clear hs2 HC1 HIS HRN HP SK HA hltz hlt hg hA HI hsk
      go_wp2_with fail
      go_loopg [6] n (fun g1 v wr => ∃ (bs : Nat) (dk : Array α), v = .int .i64 bs ∧ 20 ≤ bs ∧ bs ≤ 2000000 ∧ n - bs ≤ g1 ∧ Hid (Runs slt idn n (bdP bs 0) dk) ∧ Hid (PermIn 0 n d dk) ∧ Hid (SW enc w0 blk off dk wr))
      case atStart => exact ⟨20, d2, rfl, Nat.le_refl _, by omega, by omega, HRP.out, HP2.out, S2.out⟩
      case round =>
        clear HRP HP2 S2
        obtain ⟨bs, dk, rfl, hb1, hb2, hg, HRN, HP, SK⟩ := hrel
        by_cases hbn : bs < n
        · have hbz : (bs : Int) < (n : Int) := by omega
          go_wp2_with fail
          go_loopg [7, 8] n (fun g1 v u wr => ∃ (t A : Nat) (dk : Array α), Hid (A = t * (2 * bs)) ∧ v = .int .i64 A ∧ u = .int .i64 ((A : Int) + 2 * (bs : Int)) ∧ A ≤ n ∧ n - A ≤ g1 ∧ Hid (Runs slt idn n (bdP bs (t * (2 * bs))) dk) ∧ Hid (PermIn 0 n d dk) ∧ Hid (SW enc w0 blk off dk wr))
          case atStart => exact ⟨0, 0, dk, by simp [Hid], rfl, by simp, Nat.zero_le _, by omega, by rw [Nat.zero_mul]; exact HRN.out, HP.out, SK.out⟩
          case round =>
            clear HRN HP SK
            obtain ⟨t, A, dk, HA, rfl, rfl, hA, hg2, HRN, HP, SK⟩ := hrel
            have hsk : dk.size = n := HP.out.1.trans hn
            by_cases hlt : A + 2 * bs ≤ n
            · have hltz : (A : Int) + 2 * (bs : Int) ≤ (n : Int) := by omega
              have hpre := runs_pre (b := A + 2 * bs) HRN.out (by have := HA.out; omega) (by have := HA.out; omega) hlt
              rw [← HA.out] at hpre
              have hcon := HM.out A (A + bs) (A + 2 * bs) dk wr (by omega) SK.out (by omega) (by omega) (by omega) hpre.1 hpre.2.1 hpre.2.2
              rw [show ((A + bs : Nat) : Int) = (A : Int) + (bs : Int) by omega, show ((A + 2 * bs : Nat) : Int) = (A : Int) + 2 * (bs : Int) by omega] at hcon
              have HC1 := Lib.hid hcon
              clear hcon hpre
              go_wp2_with fail
              refine HC1.out.mono ?_
              rintro e w2 ⟨rfl, d3, k1, k2, k3⟩
              have HK := Lib.hid (And.intro k1 (And.intro k2 k3))
              clear k1 k2 k3
              go_wp2_with fail
              go_roundg (n - (A + 2 * bs))
              case measure => omega
              case rel => exact ⟨t + 1, A + 2 * bs, d3, show _ = _ from by rw [Nat.add_mul t 1 (2 * bs), Nat.one_mul, ← HA.out], by go_num, by go_num, hlt, Nat.le_refl _, by have h := HA.out; have h2 := HK.out; rw [h] at h2; exact runs_pair (by omega) HRN.out (by omega) (by omega) h2.2.1 h2.1, permIn_trans _ _ _ 0 n HP.out (permIn_mono _ _ A (A + 2 * bs) 0 n (Nat.zero_le _) hlt (by omega) HK.out.2.1), HK.out.2.2⟩
            · have hltz : ¬ (A : Int) + 2 * (bs : Int) ≤ (n : Int) := by omega
              by_cases hmn : A + bs < n
              · have hmz : (A : Int) + (bs : Int) < (n : Int) := by omega
                have hpre := runs_pre (b := n) HRN.out (by have := HA.out; omega) (by have := HA.out; omega) (Nat.le_refl _)
                rw [← HA.out] at hpre
                have hcon := HM.out A (A + bs) n dk wr (by omega) SK.out (by omega) (by omega) (by omega) hpre.1 hpre.2.1 hpre.2.2
                rw [show ((A + bs : Nat) : Int) = (A : Int) + (bs : Int) by omega] at hcon
                have HC1 := Lib.hid hcon
                clear hcon hpre
                go_wp2_with fail
                refine HC1.out.mono ?_
                rintro e w2 ⟨rfl, d3, k1, k2, k3⟩
                have HK := Lib.hid (And.intro k1 (And.intro k2 k3))
                clear k1 k2 k3
                go_wp2_with fail
                go_roundg (n - bs * 2)
                case measure => omega
                case rel => exact ⟨bs * 2, d3, by go_num, by omega, by omega, Nat.le_refl _, by have h := HA.out; have h2 := HK.out; rw [h] at h2; rw [Nat.mul_comm bs 2]; exact runs_pass_merge (by omega) HRN.out (by omega) (by omega) (by omega) h2.2.1 h2.1, permIn_trans _ _ _ 0 n HP.out (permIn_mono _ _ A n 0 n (Nat.zero_le _) (Nat.le_refl _) (by omega) HK.out.2.1), HK.out.2.2⟩
              · have hmz : ¬ (A : Int) + (bs : Int) < (n : Int) := by omega
                go_wp2_with fail
                go_roundg (n - bs * 2)
                case measure => omega
                case rel => exact ⟨bs * 2, dk, by go_num, by omega, by omega, Nat.le_refl _, by rw [Nat.mul_comm bs 2]; exact runs_pass_none HRN.out (by have := HA.out; omega), HP.out, SK.out⟩
        · have hbz : ¬ (bs : Int) < (n : Int) := by omega
          go_wp2_with fail
          go_end0
          exact ⟨rfl, dk, runs_end HRN.out (by omega), HP.out, SK.out⟩
end Go.Proofs.YtmglbegbijofkaaGreatDoor
