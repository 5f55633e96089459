import Derived.Test.YtmglbegbijofkaaGreatDoorQ07
import Derived.Test.YtmglbegbijofkaaGreatDoorQ15
import Derived.Shelf.RegionOpen
import Derived.IntWalk
set_option linter.unusedVariables false
set_option linter.unusedSimpArgs false
namespace Go.Proofs.YtmglbegbijofkaaGreatDoor
open Go.RowKit

set_option maxRecDepth 100000 in
set_option maxHeartbeats 800000 in
/-- internal/stringslite.Cut, where Index answers as it should -/
theorem scut_of (s sep : ByteArray) (w : World) (hs : s.size < 4294967296000000) (hsep : sep.size < 4294967296)
    (hone : ∀ W, Calls Tryz.prog 198 #[.string s, .string sep] W fun e w' => e = .returned (.int .i64 (Lib.index s.data.toList sep.data.toList)) ∧ w' = W) :
    Calls Tryz.prog 174 #[.string s, .string sep] w fun e w' => e = .returned (.tuple #[.string ⟨(Lib.cut s.data.toList sep.data.toList).1.toArray⟩, .string ⟨(Lib.cut s.data.toList sep.data.toList).2.1.toArray⟩, .bool (Lib.cut s.data.toList sep.data.toList).2.2]) ∧ ∃ n, w' = w.drewN n := by
  have HO := Lib.hid hone
  clear hone
  rcases Lib.indexB_cases s sep with hix | ⟨i, hix, hroom⟩
  · obtain ⟨e1, e2, e3⟩ := Lib.cutB_miss s sep hix
    rw [e1, e2, e3]
    clear e1 e2 e3
    have HX : Hid (Lib.index s.data.toList sep.data.toList = -1) := show _ = _ from hix
    clear hix
    go_enter Tryz.func174, Tryz.ntmps174
    go_wp2_with (go_at_call 198; refine (HO.out _).mono ?_; rintro e w' ⟨rfl, rfl⟩; rw [HX.out])
    go_ret3
    exact ⟨rfl, 0, rfl⟩
  · obtain ⟨e1, e2, e3⟩ := Lib.cutB_hit s sep i hix
    rw [e1, e2, e3]
    clear e1 e2 e3
    have HX : Hid (Lib.index s.data.toList sep.data.toList = i) := show _ = _ from hix
    clear hix
    have c1 : (0 : Int) ≤ ↑i := by omega
    have c2 : (↑i : Int) ≤ ↑s.size := by omega
    have c3 : (0 : Int) ≤ ↑i + ↑sep.size := by omega
    have c4 : (↑i + ↑sep.size : Int) ≤ ↑s.size := by omega
    have mixed : Tryz.prog.follows Departure.mixedOrders = true := by kernel_rfl
    have c5 := IntWalk.i64_in (↑i + ↑sep.size) ⟨by omega, by omega⟩
    go_enter Tryz.func174, Tryz.ntmps174
    go_wp2_with (go_at_call 198; refine (HO.out _).mono ?_; rintro e w' ⟨rfl, rfl⟩; rw [HX.out])
    go_region_o
    go_wp2
    go_ret3
    exact ⟨rfl, 1, rfl⟩
/-- internal/stringslite.Cut at one space, at every string -/
theorem scut1 (s : ByteArray) (w : World) (hs : s.size < 4294967296000000) :
    Calls Tryz.prog 174 #[.string s, .string ⟨#[32]⟩] w fun e w' => e = .returned (.tuple #[.string ⟨(Lib.cut s.data.toList [32]).1.toArray⟩, .string ⟨(Lib.cut s.data.toList [32]).2.1.toArray⟩, .bool (Lib.cut s.data.toList [32]).2.2]) ∧ ∃ n, w' = w.drewN n :=
  scut_of s ⟨#[32]⟩ w hs (by decide) (fun W => by rw [show Lib.index s.data.toList (⟨#[32]⟩ : ByteArray).data.toList = Lib.indexByte s.data.toList 32 from Lib.index_one _ _]; exact Tryz.stringslite_Index_one s 32 W)
theorem cut1 (r : List UInt8) (w : World) (hs : r.length < 4294967296000000) :
    Calls Tryz.prog 137 #[.string ⟨r.toArray⟩, .string ⟨#[32]⟩] w fun e w' => e = .returned (.tuple #[.string ⟨(Lib.cut r [32]).1.toArray⟩, .string ⟨(Lib.cut r [32]).2.1.toArray⟩, .bool (Lib.cut r [32]).2.2]) ∧ ∃ n, w' = w.drewN n := by
  have hc : ∀ W, Calls Tryz.prog 174 #[.string ⟨r.toArray⟩, .string ⟨#[32]⟩] W fun e w' => e = .returned (.tuple #[.string ⟨(Lib.cut r [32]).1.toArray⟩, .string ⟨(Lib.cut r [32]).2.1.toArray⟩, .bool (Lib.cut r [32]).2.2]) ∧ ∃ n, w' = W.drewN n := fun W => scut1 ⟨r.toArray⟩ W hs
  have HC := Lib.hid hc
  clear hc
  generalize Lib.cut r [32] = q at *
  obtain ⟨qa, qb, qm⟩ := q
  go_enter Tryz.func137, Tryz.ntmps137
  go_wp2_with (go_at_call 174; refine (HC.out _).mono ?_; rintro e w' ⟨rfl, n, rfl⟩)
  go_ret3
  exact ⟨rfl, n, rfl⟩
end Go.Proofs.YtmglbegbijofkaaGreatDoor
