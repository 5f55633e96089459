import Derived.Test.YtmglbegbijofkaaGreatDoorW26
import Derived.Deep.CutRange
import Derived.BigRegion
import Derived.Test.YtmglbegbijofkaaGreatDoorRL
set_option linter.unusedVariables false
set_option linter.unusedSimpArgs false
namespace Go.Proofs.YtmglbegbijofkaaGreatDoor
open Go.RowKit

/-- what the reference's 'where' returns -/
def RWhereEnd (speed climb low high tick : Int) (ss : List Sight) : Ending :=
  .returned (.tuple #[.agg #[.int .i64 (whXL speed tick ss), .int .i64 (whXH speed tick ss), .int .i64 (whYL speed tick ss), .int .i64 (whYH speed tick ss)], .agg #[.int .i64 (whZL climb low tick ss), .int .i64 (whZH climb high tick ss)], .bool (whB speed climb low high tick ss)])
/-- the blocks of the reference's 'where' at a round's head -/
structure RW (w wr : World) (n : Nat) (C : Array Value) (xl xh yl yh zl zh : Int) : Prop where
  b : Below w.heap.size w wr
  c : cellsAt wr n 63 C
  r : cellsAt wr (n + 1) 25 #[.int .i64 0, .int .i64 0, .int .i64 0, .int .i64 0]
  q : cellsAt wr (n + 1 + 1) 23 #[.int .i64 0, .int .i64 0]
  a : cellsAt wr (n + 1 + 1 + 1) 25 #[.int .i64 xl, .int .i64 xh, .int .i64 yl, .int .i64 yh]
  h : cellsAt wr (n + 1 + 1 + 1 + 1) 23 #[.int .i64 zl, .int .i64 zh]
theorem bl1 {w w' : World} {o : Obj} (h : Below (w.alloc o).heap.size (w.alloc o) w') : Below w.heap.size w w' := below_trans (balloc (Below.refl _ _) o) h
theorem cellsAt.alloc {W : World} {b : Nat} {t : TypeId} {cs : Array Value} (h : cellsAt W b t cs) (o : Obj) : cellsAt (W.alloc o) b t cs := h.below (balloc (Below.refl _ _) o)
theorem cellsAt.set2 {W : World} {p : Nat} {t : TypeId} {a b : Value} (h : cellsAt W p t #[a, b]) (u v : Value) : cellsAt ((W.setCell ⟨p, 0, none⟩ u).setCell ⟨p, 1, none⟩ v) p t #[u, v] := by
  have k := (h.set 0 u).set 1 v
  simpa using k
theorem cellsNew1 (w : World) (o : Obj) (cs : Array Value) (t : TypeId) : cellsAt ((w.alloc o).alloc (.cells cs t)) (w.heap.size + 1) t cs := by
  have k := cellsNew (w.alloc o) cs t
  rwa [World.size_alloc] at k
theorem cellsNewE {w : World} {n : Nat} (h : n = w.heap.size) (cs : Array Value) (t : TypeId) : cellsAt (w.alloc (.cells cs t)) n t cs := by subst h; exact cellsNew w cs t
theorem drc {w : World} {a : Addr} {v : Value} (h : w.cell? a = some v) : w.drew.cell? a = some v := h
theorem setc {w : World} {a p : Addr} {v x : Value} (hp : p.block ≠ a.block) (h : w.cell? a = some v) : (w.setCell p x).cell? a = some v := (World.cell?_setCell_far w p a x hp).trans h
section
variable {w wr wr' : World} {n : Nat} {C : Array Value} {xl xh yl yh zl zh : Int}
theorem RW.below (h : RW w wr n C xl xh yl yh zl zh) (hb : Below wr.heap.size wr wr') : RW w wr' n C xl xh yl yh zl zh :=
  ⟨below_trans h.b hb, h.c.below hb, h.r.below hb, h.q.below hb, h.a.below hb, h.h.below hb⟩
theorem RW.setA (h : RW w wr n C xl xh yl yh zl zh) (hn : w.heap.size ≤ n) (a b c d : Int) : RW w ((((wr.setCell ⟨n + 1 + 1 + 1, 0, none⟩ (.int .i64 a)).setCell ⟨n + 1 + 1 + 1, 1, none⟩ (.int .i64 b)).setCell ⟨n + 1 + 1 + 1, 2, none⟩ (.int .i64 c)).setCell ⟨n + 1 + 1 + 1, 3, none⟩ (.int .i64 d)) n C a b c d zl zh := by
  have o : ∀ {t : TypeId} {cs : Array Value} {m : Nat}, cellsAt wr m t cs → n + 1 + 1 + 1 ≠ m → cellsAt ((((wr.setCell ⟨n + 1 + 1 + 1, 0, none⟩ (.int .i64 a)).setCell ⟨n + 1 + 1 + 1, 1, none⟩ (.int .i64 b)).setCell ⟨n + 1 + 1 + 1, 2, none⟩ (.int .i64 c)).setCell ⟨n + 1 + 1 + 1, 3, none⟩ (.int .i64 d)) m t cs :=
    fun {t cs m} hc hne => (((hc.set_other (p := ⟨n + 1 + 1 + 1, 0, none⟩) hne _).set_other (p := ⟨n + 1 + 1 + 1, 1, none⟩) hne _).set_other (p := ⟨n + 1 + 1 + 1, 2, none⟩) hne _).set_other (p := ⟨n + 1 + 1 + 1, 3, none⟩) hne _
  have hp : w.heap.size ≤ n + 1 + 1 + 1 := by omega
  refine ⟨(((h.b.setCell (p := ⟨n + 1 + 1 + 1, 0, none⟩) hp _).setCell (p := ⟨n + 1 + 1 + 1, 1, none⟩) hp _).setCell (p := ⟨n + 1 + 1 + 1, 2, none⟩) hp _).setCell (p := ⟨n + 1 + 1 + 1, 3, none⟩) hp _, o h.c (by omega), o h.r (by omega), o h.q (by omega), ?_, o h.h (by omega)⟩
  have k := (((h.a.set 0 (.int .i64 a)).set 1 (.int .i64 b)).set 2 (.int .i64 c)).set 3 (.int .i64 d)
  simpa using k
theorem RW.setH (h : RW w wr n C xl xh yl yh zl zh) (hn : w.heap.size ≤ n) (a b : Int) : RW w ((wr.setCell ⟨n + 1 + 1 + 1 + 1, 0, none⟩ (.int .i64 a)).setCell ⟨n + 1 + 1 + 1 + 1, 1, none⟩ (.int .i64 b)) n C xl xh yl yh a b := by
  have o : ∀ {t : TypeId} {cs : Array Value} {m : Nat}, cellsAt wr m t cs → n + 1 + 1 + 1 + 1 ≠ m → cellsAt ((wr.setCell ⟨n + 1 + 1 + 1 + 1, 0, none⟩ (.int .i64 a)).setCell ⟨n + 1 + 1 + 1 + 1, 1, none⟩ (.int .i64 b)) m t cs :=
    fun {t cs m} hc hne => (hc.set_other (p := ⟨n + 1 + 1 + 1 + 1, 0, none⟩) hne _).set_other (p := ⟨n + 1 + 1 + 1 + 1, 1, none⟩) hne _
  have hp : w.heap.size ≤ n + 1 + 1 + 1 + 1 := by omega
  refine ⟨(h.b.setCell (p := ⟨n + 1 + 1 + 1 + 1, 0, none⟩) hp _).setCell (p := ⟨n + 1 + 1 + 1 + 1, 1, none⟩) hp _, o h.c (by omega), o h.r (by omega), o h.q (by omega), o h.a (by omega), ?_⟩
  have k := (h.h.set 0 (.int .i64 a)).set 1 (.int .i64 b)
  simpa using k
theorem RW.alloc (h : RW w wr n C xl xh yl yh zl zh) (o : Obj) : RW w (wr.alloc o) n C xl xh yl yh zl zh := h.below (balloc (Below.refl _ _) o)
theorem RW.set_far (h : RW w wr n C xl xh yl yh zl zh) (hn : w.heap.size ≤ n) {p : Addr} (hp : n + 1 + 1 + 1 + 1 < p.block) (v : Value) : RW w (wr.setCell p v) n C xl xh yl yh zl zh :=
  ⟨h.b.setCell (by omega) _, h.c.set_other (by omega) _, h.r.set_other (by omega) _, h.q.set_other (by omega) _, h.a.set_other (by omega) _, h.h.set_other (by omega) _⟩
theorem RW.drew (h : RW w wr n C xl xh yl yh zl zh) : RW w wr.drew n C xl xh yl yh zl zh := h.below (Below.refl _ _).drew
end

theorem cellsAt.set4 {W : World} {b c : Nat} {t : TypeId} {cs : Array Value} (h : cellsAt W b t cs) (hne : c ≠ b) {u0 u1 u2 u3 : Value} : cellsAt ((((W.setCell ⟨c, 0, none⟩ u0).setCell ⟨c, 1, none⟩ u1).setCell ⟨c, 2, none⟩ u2).setCell ⟨c, 3, none⟩ u3) b t cs :=
  (((h.set_other (p := ⟨c, 0, none⟩) hne _).set_other (p := ⟨c, 1, none⟩) hne _).set_other (p := ⟨c, 2, none⟩) hne _).set_other (p := ⟨c, 3, none⟩) hne _
def S11 (n p q : Nat) (A0 A1 A2 A3 X0 X1 Y0 Y1 : Int) (w' : World) : Prop := w'.cell? ⟨n + 1 + 1 + 1, 0, none⟩ = some (.int .i64 A0) ∧ w'.cell? ⟨n + 1 + 1 + 1, 1, none⟩ = some (.int .i64 A1) ∧ w'.cell? ⟨n + 1 + 1 + 1, 2, none⟩ = some (.int .i64 A2) ∧ w'.cell? ⟨n + 1 + 1 + 1, 3, none⟩ = some (.int .i64 A3) ∧ w'.cell? ⟨p, 0, none⟩ = some (.int .i64 X0) ∧ w'.cell? ⟨p, 1, none⟩ = some (.int .i64 X1) ∧ w'.cell? ⟨q, 0, none⟩ = some (.int .i64 Y0) ∧ w'.cell? ⟨q, 1, none⟩ = some (.int .i64 Y1)
def S12 (n sb : Nat) (climb Z0 Z1 h e : Int) (w' : World) : Prop := w'.cell? ⟨n + 1 + 1 + 1 + 1, 0, none⟩ = some (.int .i64 Z0) ∧ w'.cell? ⟨n + 1 + 1 + 1 + 1, 1, none⟩ = some (.int .i64 Z1) ∧ w'.cell? ⟨n, 2, none⟩ = some (.int .i64 climb) ∧ w'.cell? ⟨sb, 3, none⟩ = some (.int .i64 h) ∧ w'.cell? ⟨sb, 4, none⟩ = some (.int .i64 e)
def B9 (w wx : World) (n sb p q : Nat) (C : Array Value) (sg : Sight) (Lx Ly : List (Int × Int)) (zl zh x0 x1 y0 y1 : Int) : Prop :=
  ∃ A0 A1 A2 A3, RW w wx n C A0 A1 A2 A3 zl zh ∧ max A0 x0 = comL (Lx ++ [(x0, x1)]) ∧ min A1 x1 = comH (Lx ++ [(x0, x1)]) ∧ max A2 y0 = comL (Ly ++ [(y0, y1)]) ∧ min A3 y1 = comH (Ly ++ [(y0, y1)]) ∧
    cellsAt wx p 23 #[.int .i64 x0, .int .i64 x1] ∧ cellsAt wx q 23 #[.int .i64 y0, .int .i64 y1] ∧ cellsAt wx sb 77 #[.int .i64 sg.t, .int .i64 sg.x, .int .i64 sg.y, .int .i64 sg.h, .int .i64 sg.e]
/-- behind the reference's two spans of a sight -/
def B8 (w wx : World) (n sb : Nat) (C : Array Value) (sg : Sight) (xl xh yl yh zl zh x0 x1 y0 y1 : Int) (v12 v13 : Value) : Prop :=
  ∃ p q, v12 = .pointer (some ⟨p, 0, none⟩) ∧ v13 = .pointer (some ⟨q, 0, none⟩) ∧ n + 1 + 1 + 1 + 1 < p ∧ n + 1 + 1 + 1 + 1 < q ∧ cellsAt wx p 23 #[.int .i64 x0, .int .i64 x1] ∧ cellsAt wx q 23 #[.int .i64 y0, .int .i64 y1] ∧
    cellsAt wx sb 77 #[.int .i64 sg.t, .int .i64 sg.x, .int .i64 sg.y, .int .i64 sg.h, .int .i64 sg.e] ∧ RW w wx n C xl xh yl yh zl zh

set_option maxRecDepth 100000 in
set_option maxHeartbeats 4000000 in
theorem rwhere_any (nm : ByteArray) (speed climb low high : Int) (v : Value) (ss : List Sight) (tick : Int) (w : World) (hv : SightsAt w v ss)
    (ht0 : 0 ≤ tick) (ht1 : tick ≤ 100000)
    (g1 : 0 ≤ speed) (g2 : speed ≤ 1000000) (g3 : 0 ≤ climb) (g4 : climb ≤ 1000000) (hn0 : 0 < ss.length) (hn1 : ss.length ≤ 10)
    (hsg : ∀ k, k < ss.length → sgBad (sgAt ss k) = false) :
    Calls Tryz.prog 95 #[.agg #[.string nm, .int .i64 speed, .int .i64 climb, .int .i64 low, .int .i64 high, v], .int .i64 tick] w fun e w' =>
      e = RWhereEnd speed climb low high tick ss ∧ Below w.heap.size w w' := by
  obtain ⟨a, c, rfl, hx⟩ := id hv
  clear hx
  have HV := Lib.hid hv
  have HSG := Lib.hid hsg
  clear hv hsg
  go_enter Tryz.func95, Tryz.ntmps95
  go_wp2_with fail
  obtain ⟨hC, hR, hQ, hA, hH, hz, hB⟩ := alloc5 w #[.string nm, .int .i64 speed, .int .i64 climb, .int .i64 low, .int .i64 high, .slice a ss.length c] #[.int .i64 0, .int .i64 0, .int .i64 0, .int .i64 0] #[.int .i64 0, .int .i64 0] #[.int .i64 0, .int .i64 0, .int .i64 0, .int .i64 0] #[.int .i64 low, .int .i64 high] 63 25 23 25 23
  have HRW := Lib.hid (RW.mk hB hC hR hQ hA hH)
  clear hz hC hR hQ hA hH hB
  generalize ((((w.alloc (.cells #[.string nm, .int .i64 speed, .int .i64 climb, .int .i64 low, .int .i64 high, .slice a ss.length c] 63)).alloc (.cells #[.int .i64 0, .int .i64 0, .int .i64 0, .int .i64 0] 25)).alloc (.cells #[.int .i64 0, .int .i64 0] 23)).alloc (.cells #[.int .i64 0, .int .i64 0, .int .i64 0, .int .i64 0] 25)).alloc (.cells #[.int .i64 low, .int .i64 high] 23) = W1 at *
  go_loopw [9] (fun i wr => ∃ k : Nat, k ≤ ss.length ∧ i = .int .i64 k ∧ RW w wr w.heap.size #[.string nm, .int .i64 speed, .int .i64 climb, .int .i64 low, .int .i64 high, .slice a ss.length c] (comL ((ss.take k).map (sgX speed tick))) (comH ((ss.take k).map (sgX speed tick))) (comL ((ss.take k).map (sgY speed tick))) (comH ((ss.take k).map (sgY speed tick))) (comLo low ((ss.take k).map (sgZ climb tick))) (comHi high ((ss.take k).map (sgZ climb tick)))) (fun i _ => ss.length - (intOf i).toNat)
  case atStart => exact ⟨0, Nat.zero_le _, rfl, by simpa [comL, comH, comLo, comHi] using HRW.out⟩
  case round =>
    obtain ⟨k, hk, rfl, hR⟩ := hrel
    clear HRW
    by_cases hlt : k < ss.length
    · have hRl := hR.h.lt
      have hrow := HV.out.below hR.b
      obtain ⟨m0, m1, m2, m3, m4, m5⟩ := cells6 hR.c
      obtain ⟨a', c', hac, h0 | ⟨b, off, rfl, hb, hc⟩⟩ := hrow
      · omega
      · simp only [Value.slice.injEq] at hac
        obtain ⟨rfl, _, rfl⟩ := hac
        obtain ⟨s0, s1, s2, s3, s4⟩ := sight_cells hc hlt
        obtain ⟨⟨b0, b1⟩, ⟨b2, b3⟩, ⟨b4, b5⟩, ⟨b6, b7⟩, ⟨b8, b9⟩⟩ := sgBad_false.1 (HSG.out k hlt)
        have hge : sgAt ss k = ss[k] := by simp [sgAt, hlt]
        have HX := Lib.hid (take_snoc_map (sgX speed tick) ss k hlt)
        have HY := Lib.hid (take_snoc_map (sgY speed tick) ss k hlt)
        have HZ := Lib.hid (take_snoc_map (sgZ climb tick) ss k hlt)
        rw [← hge] at HX HY HZ
        have HL0 : Hid (k = 0 → (ss.take k).map (sgX speed tick) = [] ∧ (ss.take k).map (sgY speed tick) = []) := fun h => by subst h; simp
        have HL1 : Hid (¬ k = 0 → (ss.take k).map (sgX speed tick) ≠ [] ∧ (ss.take k).map (sgY speed tick) ≠ []) := fun h => by
          have hne : ss ≠ [] := fun e => by subst e; simp at hlt
          simp [h, hne]
        generalize sgAt ss k = sg at *
        generalize (ss.take k).map (sgX speed tick) = Lx at hR HX HL0 HL1
        generalize (ss.take k).map (sgY speed tick) = Ly at hR HY HL0 HL1
        generalize (ss.take k).map (sgZ climb tick) = Lz at hR HZ
        clear hc hge
        have hfb := far_bd tick sg ht0 ht1 b0 b1
        go_upto_region 7 with fail
        go_cut [11] from 19 to 87 (fun v11 wx => v11 = .int .i64 (far tick sg) ∧ wx = wr.alloc (.cells #[.int .i64 sg.t, .int .i64 sg.x, .int .i64 sg.y, .int .i64 sg.h, .int .i64 sg.e] 77))
        case first =>
          by_cases hmx : tick - sg.t < sg.t - tick
          · have hfar := Lib.hid (show far tick sg = sg.t - tick by unfold far; omega)
            go_wp2_with fail
            go_meet
            case rel => exact ⟨by rw [hfar.out], rfl⟩
          · have hfar := Lib.hid (show far tick sg = tick - sg.t by unfold far; omega)
            go_wp2_with fail
            go_meet
            case rel => exact ⟨by rw [hfar.out], rfl⟩
        case rest =>
          obtain ⟨rfl, rfl⟩ := hcut
          obtain ⟨hf0, hf1⟩ := hfb
          have hfar : Hid (∃ f, f = far tick sg) := ⟨_, rfl⟩
          have HSX : Hid (sgX speed tick sg = (sg.x - (sg.e + far tick sg * speed), sg.x + (sg.e + far tick sg * speed))) := show _ = _ from rfl
          have HSY : Hid (sgY speed tick sg = (sg.y - (sg.e + far tick sg * speed), sg.y + (sg.e + far tick sg * speed))) := show _ = _ from rfl
          have HSZ : Hid (sgZ climb tick sg = (sg.h - (sg.e + far tick sg * climb), sg.h + (sg.e + far tick sg * climb))) := show _ = _ from rfl
          clear hfar
          generalize far tick sg = f at *
          have hR := hR.below (balloc (Below.refl _ _) (.cells #[.int .i64 sg.t, .int .i64 sg.x, .int .i64 sg.y, .int .i64 sg.h, .int .i64 sg.e] 77))
          have hS := cellsNew wr #[.int .i64 sg.t, .int .i64 sg.x, .int .i64 sg.y, .int .i64 sg.h, .int .i64 sg.e] 77
          clear s0 s1 s2 s3 s4 m0 m1 m2 m3 m4 m5
          generalize (wr.alloc (.cells #[.int .i64 sg.t, .int .i64 sg.x, .int .i64 sg.y, .int .i64 sg.h, .int .i64 sg.e] 77)) = W3 at *
          have hsbl : w.heap.size + 1 + 1 + 1 + 1 < wr.heap.size := hRl
          generalize wr.heap.size = sb at *
          go_upto_region 8 with fail
          go_cut [12, 13] from 19 to 87 (fun v12 v13 wx => B8 w wx w.heap.size sb #[.string nm, .int .i64 speed, .int .i64 climb, .int .i64 low, .int .i64 high, .slice (some ⟨b, off, none⟩) ss.length c] sg (comL Lx) (comH Lx) (comL Ly) (comH Ly) (comLo low Lz) (comHi high Lz) (sg.x - (sg.e + f * speed)) (sg.x + (sg.e + f * speed)) (sg.y - (sg.e + f * speed)) (sg.y + (sg.e + f * speed)) v12 v13)
          case first =>
            obtain ⟨p0, p1⟩ := mul_bd f speed 100000 1000000 hf0 hf1 g1 g2
            have q1 := IntWalk.i64_in (f * speed) ⟨by omega, by omega⟩
            have q2 := IntWalk.i64_in (sg.e + f * speed) ⟨by omega, by omega⟩
            obtain ⟨t0, t1, t2, t3, t4⟩ := cells5 hS
            have m1 := (cells6 hR.c).2.1
            have hl := hR.h.lt
            have hls := hS.lt
            go_region_held3 (fun w' => w'.cell? ⟨sb, 1, none⟩ = some (.int .i64 sg.x) ∧ w'.cell? ⟨sb, 2, none⟩ = some (.int .i64 sg.y) ∧ w'.cell? ⟨sb, 4, none⟩ = some (.int .i64 sg.e) ∧ w'.cell? ⟨w.heap.size, 1, none⟩ = some (.int .i64 speed)) (first | (refine ⟨?_, ?_, ?_, ?_⟩; all_goals (repeat (first | (with_reducible exact t1) | (with_reducible exact t2) | (with_reducible exact t4) | (with_reducible exact m1) | (with_reducible refine drc ?_) | (with_reducible refine alloc_cell ?_ _) | (with_reducible refine setc (by dsimp only; omega) ?_))); done) | go_keep)
              ((go_at_call 154; refine (rabout_any _ _ _ (by omega) (by omega) (by omega) (by omega)).mono ?_; rintro e w4 ⟨rfl, hbA⟩
                (try (with_reducible have hbA := below_drew' hbA))
                (first
                  | (with_reducible have hbB := bl1 (bl1 hbA)); have hN := ((cellsNew _ #[.int .i64 0, .int .i64 0] 23).alloc _).below hbA; have hM := (cellsNew1 _ _ #[.int .i64 0, .int .i64 0] 23).below hbA
                  | (with_reducible have hbB := bl1 hbA); (first | (have hN := hN.below hbB; have hM := (cellsNew _ #[.int .i64 0, .int .i64 0] 23).below hbA) | (have hN := (cellsNew _ #[.int .i64 0, .int .i64 0] 23).below hbA))
                  | (have hbB := hbA; (try have hN := hN.below hbB); (try have hM := hM.below hbB)))
                have hR := hR.below hbB
                have hS := hS.below hbB
                have t1 := below_cell hbB t1
                have t2 := below_cell hbB t2
                have t4 := below_cell hbB t4
                have m1 := below_cell hbB m1
                have hl := hR.h.lt
                have hls := hS.lt
                (try have cn := cells2 hN; obtain ⟨cn0, cn1⟩ := cn; have fn0 := hN.frozen 0; have fn1 := hN.frozen 1; have ln := hN.lt; have ln' := Nat.ne_of_lt ln)
                (try have cm := cells2 hM; obtain ⟨cm0, cm1⟩ := cm; have fm0 := hM.frozen 0; have fm1 := hM.frozen 1; have lm := hM.lt; have lm' := Nat.ne_of_lt lm)))
            all_goals go_wp2_with fail
            all_goals go_meet
            all_goals (clear t0 t1 t2 t3 t4 m1 p0 p1 q1 q2)
            all_goals (refine ⟨_, _, rfl, rfl, by omega, by omega, ?_, ?_, ?_, ?_⟩)
            all_goals (repeat (first
              | (with_reducible exact hR) | (with_reducible exact hS) | (with_reducible exact hN) | (with_reducible exact hM)
              | (with_reducible exact cellsNewE (by simp) _ _)
              | (with_reducible refine cellsAt.drew ?_) | (with_reducible refine RW.drew ?_)
              | (with_reducible refine cellsAt.alloc ?_ _) | (with_reducible refine RW.alloc ?_ _)
              | (with_reducible refine cellsAt.set2 (a := .int .i64 0) (b := .int .i64 0) ?_ _ _)
              | (with_reducible refine cellsAt.set_other ?_ (by dsimp only; omega) _)
              | (with_reducible refine RW.set_far ?_ (Nat.le_refl _) (by dsimp only; omega) _)))
          case rest =>
            obtain ⟨p, q, rfl, rfl, hp, hq, hP, hQ, hS, hR⟩ := hcut
            go_upto_if 63 with fail
            go_cut [] from 19 to 87 (fun wx => B9 w wx w.heap.size sb p q #[.string nm, .int .i64 speed, .int .i64 climb, .int .i64 low, .int .i64 high, .slice (some ⟨b, off, none⟩) ss.length c] sg Lx Ly (comLo low Lz) (comHi high Lz) (sg.x - (sg.e + f * speed)) (sg.x + (sg.e + f * speed)) (sg.y - (sg.e + f * speed)) (sg.y + (sg.e + f * speed)))
            case first =>
              obtain ⟨pa, pb⟩ := cells2 hP
              obtain ⟨qa, qb⟩ := cells2 hQ
              obtain ⟨a0, a1, a2, a3⟩ := cells4 hR.a
              have e0 := hR.a.frozen 0
              have e1 := hR.a.frozen 1
              have e2 := hR.a.frozen 2
              have e3 := hR.a.frozen 3
              by_cases hk0 : k = 0
              · have hLx := Lib.hid (HL0.out hk0).1
                have hLy := Lib.hid (HL0.out hk0).2
                subst hk0
                go_wp2_with fail
                go_meet
                case rel => exact ⟨_, _, _, _, hR.setA (Nat.le_refl _) _ _ _ _, by rw [hLx.out]; exact (comL_one (_, _)).symm, by rw [hLx.out]; exact (comH_one (_, _)).symm, by rw [hLy.out]; exact (comL_one (_, _)).symm, by rw [hLy.out]; exact (comH_one (_, _)).symm, hP.set4 (by omega), hQ.set4 (by omega), hS.set4 (by omega)⟩
              · have hkb : ((k : Int) == 0) = false := by simpa using hk0
                have hLx := Lib.hid (HL1.out hk0).1
                have hLy := Lib.hid (HL1.out hk0).2
                clear hk0
                go_wp2_with fail
                go_meet
                case rel => exact ⟨_, _, _, _, hR, (comL_snoc _ (_, _) hLx.out).symm, (comH_snoc _ (_, _) hLx.out).symm, (comL_snoc _ (_, _) hLy.out).symm, (comH_snoc _ (_, _) hLy.out).symm, hP, hQ, hS⟩
            case rest =>
              obtain ⟨A0, A1, A2, A3, hR, c1, c2, c3, c4, hP, hQ, hS⟩ := hcut
              have C1 := Lib.hid c1
              have C2 := Lib.hid c2
              have C3 := Lib.hid c3
              have C4 := Lib.hid c4
              clear c1 c2 c3 c4
              go_upto_region 11 with fail
              go_cut [] from 19 to 87 (fun wx => RW w wx w.heap.size #[.string nm, .int .i64 speed, .int .i64 climb, .int .i64 low, .int .i64 high, .slice (some ⟨b, off, none⟩) ss.length c] (comL (Lx ++ [(sg.x - (sg.e + f * speed), sg.x + (sg.e + f * speed))])) (comH (Lx ++ [(sg.x - (sg.e + f * speed), sg.x + (sg.e + f * speed))])) (comL (Ly ++ [(sg.y - (sg.e + f * speed), sg.y + (sg.e + f * speed))])) (comH (Ly ++ [(sg.y - (sg.e + f * speed), sg.y + (sg.e + f * speed))])) (comLo low Lz) (comHi high Lz) ∧ cellsAt wx sb 77 #[.int .i64 sg.t, .int .i64 sg.x, .int .i64 sg.y, .int .i64 sg.h, .int .i64 sg.e])
              case first =>
                obtain ⟨pa, pb⟩ := cells2 hP
                obtain ⟨qa, qb⟩ := cells2 hQ
                obtain ⟨a0, a1, a2, a3⟩ := cells4 hR.a
                have e0 := hR.a.frozen 0
                have e1 := hR.a.frozen 1
                have e2 := hR.a.frozen 2
                have e3 := hR.a.frozen 3
                clear HX HY HZ HL0 HL1 HSX HSY HSZ HV HSG
                generalize sg.x - (sg.e + f * speed) = X0 at *
                generalize sg.x + (sg.e + f * speed) = X1 at *
                generalize sg.y - (sg.e + f * speed) = Y0 at *
                generalize sg.y + (sg.e + f * speed) = Y1 at *
                have hK : S11 w.heap.size p q A0 A1 A2 A3 X0 X1 Y0 Y1 wc.drew := ⟨a0, a1, a2, a3, pa, pb, qa, qb⟩
                refine wp_region_noPanic ?_
                refine wp_region_L 9 (S11 w.heap.size p q A0 A1 A2 A3 X0 X1 Y0 Y1) (by kernel_rfl) ?_
                clear a0 a1 a2 a3 pa pb qa qb e0 e1 e2 e3
                refine wpAnyL_take (i := 0) (v := ?_) (ch := [1, 3, 8, 9]) rfl (by kernel_rfl) (by kernel_rfl) (by kernel_rfl) (by kernel_rfl) (fun _ _ _ h => h) (Or.inl ⟨by rfl, ?_⟩) hK ?_; rotate_left; (focus (intro w' hSw; obtain ⟨z0, z1, z2, z3, z4, z5, z6, z7⟩ := hSw; go_simp; (try with_reducible rfl))); (try simp only [Act.put, List.setIfInBounds_toArray, List.set_cons_zero, List.set_cons_succ])
                refine wpAnyL_take (i := 1) (v := ?_) (ch := [3, 8, 9]) rfl (by kernel_rfl) (by kernel_rfl) (by kernel_rfl) (by kernel_rfl) (fun _ _ _ h => h) (Or.inl ⟨by rfl, ?_⟩) hK ?_; rotate_left; (focus (intro w' hSw; obtain ⟨z0, z1, z2, z3, z4, z5, z6, z7⟩ := hSw; go_simp; (try with_reducible rfl))); (try simp only [Act.put, List.setIfInBounds_toArray, List.set_cons_zero, List.set_cons_succ])
                refine wpAnyL_take (i := 2) (v := ?_) (ch := [3, 8, 9]) rfl (by kernel_rfl) (by kernel_rfl) (by kernel_rfl) (by kernel_rfl) (fun _ _ _ h => h) (Or.inl ⟨by rfl, ?_⟩) hK ?_; rotate_left; (focus (intro w' hSw; obtain ⟨z0, z1, z2, z3, z4, z5, z6, z7⟩ := hSw; go_simp; (try with_reducible rfl))); (try simp only [Act.put, List.setIfInBounds_toArray, List.set_cons_zero, List.set_cons_succ])
                refine wpAnyL_take (i := 4) (v := ?_) (ch := [5, 7, 8, 9]) rfl (by kernel_rfl) (by kernel_rfl) (by kernel_rfl) (by kernel_rfl) (fun _ _ _ h => h) (Or.inl ⟨by rfl, ?_⟩) hK ?_; rotate_left; (focus (intro w' hSw; obtain ⟨z0, z1, z2, z3, z4, z5, z6, z7⟩ := hSw; go_simp; (try with_reducible rfl))); (try simp only [Act.put, List.setIfInBounds_toArray, List.set_cons_zero, List.set_cons_succ])
                refine wpAnyL_take (i := 5) (v := ?_) (ch := [7, 8, 9]) rfl (by kernel_rfl) (by kernel_rfl) (by kernel_rfl) (by kernel_rfl) (fun _ _ _ h => h) (Or.inl ⟨by rfl, ?_⟩) hK ?_; rotate_left; (focus (intro w' hSw; obtain ⟨z0, z1, z2, z3, z4, z5, z6, z7⟩ := hSw; go_simp; (try with_reducible rfl))); (try simp only [Act.put, List.setIfInBounds_toArray, List.set_cons_zero, List.set_cons_succ])
                refine wpAnyL_take (i := 6) (v := ?_) (ch := [7, 8, 9]) rfl (by kernel_rfl) (by kernel_rfl) (by kernel_rfl) (by kernel_rfl) (fun _ _ _ h => h) (Or.inl ⟨by rfl, ?_⟩) hK ?_; rotate_left; (focus (intro w' hSw; obtain ⟨z0, z1, z2, z3, z4, z5, z6, z7⟩ := hSw; go_simp; (try with_reducible rfl))); (try simp only [Act.put, List.setIfInBounds_toArray, List.set_cons_zero, List.set_cons_succ])
                refine wpAnyL_one (i := 3) (by kernel_rfl) rfl (fun K' hK' => ?_)
                go_simp
                refine (rcut_any _ _ _ _ _).mono ?_
                rintro e w4 ⟨rfl, hbA⟩
                (try dsimp only)
                have hbA := below_drew' hbA
                have hR := hR.below hbA
                have hP := hP.below hbA
                have hQ := hQ.below hbA
                have hS := hS.below hbA
                have hK : S11 w.heap.size p q A0 A1 A2 A3 X0 X1 Y0 Y1 w4 := ⟨(cells4 hR.a).1, (cells4 hR.a).2.1, (cells4 hR.a).2.2.1, (cells4 hR.a).2.2.2, (cells2 hP).1, (cells2 hP).2, (cells2 hQ).1, (cells2 hQ).2⟩
                refine hK'.out _ _ (fun _ => hK) ?_
                clear hK' K'
                (try simp only [Act.put, List.setIfInBounds_toArray, List.set_cons_zero, List.set_cons_succ])
                refine wpAnyL_one (i := 7) (by kernel_rfl) rfl (fun K' hK' => ?_)
                go_simp
                refine (rcut_any _ _ _ _ _).mono ?_
                rintro e w5 ⟨rfl, hbA⟩
                (try dsimp only)
                have hR := hR.below hbA
                have hP := hP.below hbA
                have hQ := hQ.below hbA
                have hS := hS.below hbA
                have hK : S11 w.heap.size p q A0 A1 A2 A3 X0 X1 Y0 Y1 w5 := ⟨(cells4 hR.a).1, (cells4 hR.a).2.1, (cells4 hR.a).2.2.1, (cells4 hR.a).2.2.2, (cells2 hP).1, (cells2 hP).2, (cells2 hQ).1, (cells2 hQ).2⟩
                refine hK'.out _ _ (fun _ => hK) ?_
                clear hK' K'
                (try simp only [Act.put, List.setIfInBounds_toArray, List.set_cons_zero, List.set_cons_succ])
                refine wpAnyL_take (i := 8) (v := ?_) (ch := [9]) rfl (by kernel_rfl) (by kernel_rfl) (by kernel_rfl) (by kernel_rfl) (fun _ _ _ h => h) (Or.inl ⟨by rfl, ?_⟩) hK ?_; rotate_left; (focus (intro w' hSw; obtain ⟨z0, z1, z2, z3, z4, z5, z6, z7⟩ := hSw; go_simp; (try with_reducible rfl))); (try simp only [Act.put, List.setIfInBounds_toArray, List.set_cons_zero, List.set_cons_succ])
                obtain ⟨a0, a1, a2, a3⟩ := cells4 hR.a
                have e0 := hR.a.frozen 0
                have e1 := hR.a.frozen 1
                have e2 := hR.a.frozen 2
                have e3 := hR.a.frozen 3
                refine wpAnyL_one (i := 9) (by kernel_rfl) rfl (fun K' hK' => ?_)
                go_simp
                refine hK'.out _ _ (fun h => Bool.noConfusion (show true = false from h)) ?_
                clear hK' K'
                refine wpAnyL_done (by kernel_rfl) (NoPanic.normal ?_) _
                (try simp only [Act.put, List.setIfInBounds_toArray, List.set_cons_zero, List.set_cons_succ])
                go_wp2_with fail
                go_meet
                case rel => exact ⟨by rw [← C1.out, ← C2.out, ← C3.out, ← C4.out]; exact hR.setA (Nat.le_refl _) _ _ _ _, hS.set4 (by omega)⟩
              case rest =>
                obtain ⟨hR, hS⟩ := hcut
                go_upto_region 12 with fail
                obtain ⟨p2, p3⟩ := mul_bd f climb 100000 1000000 hf0 hf1 g3 g4
                have q3 := IntWalk.i64_in (f * climb) ⟨by omega, by omega⟩
                have q4 := IntWalk.i64_in (sg.e + f * climb) ⟨by omega, by omega⟩
                have HRL : Hid (∀ wx, RW w wx w.heap.size #[.string nm, .int .i64 speed, .int .i64 climb, .int .i64 low, .int .i64 high, .slice (some ⟨b, off, none⟩) ss.length c] (comL (Lx ++ [(sg.x - (sg.e + f * speed), sg.x + (sg.e + f * speed))])) (comH (Lx ++ [(sg.x - (sg.e + f * speed), sg.x + (sg.e + f * speed))])) (comL (Ly ++ [(sg.y - (sg.e + f * speed), sg.y + (sg.e + f * speed))])) (comH (Ly ++ [(sg.y - (sg.e + f * speed), sg.y + (sg.e + f * speed))])) (max (comLo low Lz) (sg.h - (sg.e + f * climb))) (min (comHi high Lz) (sg.h + (sg.e + f * climb))) →
                  RW w wx w.heap.size #[.string nm, .int .i64 speed, .int .i64 climb, .int .i64 low, .int .i64 high, .slice (some ⟨b, off, none⟩) ss.length c] (comL ((ss.take (k + 1)).map (sgX speed tick))) (comH ((ss.take (k + 1)).map (sgX speed tick))) (comL ((ss.take (k + 1)).map (sgY speed tick))) (comH ((ss.take (k + 1)).map (sgY speed tick))) (comLo low ((ss.take (k + 1)).map (sgZ climb tick))) (comHi high ((ss.take (k + 1)).map (sgZ climb tick)))) := fun wx h => by
                  rw [HX.out, HY.out, HZ.out, HSX.out, HSY.out, HSZ.out, comLo_snoc, comHi_snoc]; exact h
                clear HX HY HZ HL0 HL1 HSX HSY HSZ C1 C2 C3 C4 hP hQ
                generalize comL (Lx ++ [(sg.x - (sg.e + f * speed), sg.x + (sg.e + f * speed))]) = B0 at *
                generalize comH (Lx ++ [(sg.x - (sg.e + f * speed), sg.x + (sg.e + f * speed))]) = B1 at *
                generalize comL (Ly ++ [(sg.y - (sg.e + f * speed), sg.y + (sg.e + f * speed))]) = B2 at *
                generalize comH (Ly ++ [(sg.y - (sg.e + f * speed), sg.y + (sg.e + f * speed))]) = B3 at *
                generalize comLo low Lz = Z0 at *
                generalize comHi high Lz = Z1 at *
                have hK : S12 w.heap.size sb climb Z0 Z1 sg.h sg.e wc.drew := ⟨(cells2 hR.h).1, (cells2 hR.h).2, (cells6 hR.c).2.2.1, (cells5 hS).2.2.2.1, (cells5 hS).2.2.2.2⟩
                refine wp_region_noPanic ?_
                refine wp_region_L 12 (S12 w.heap.size sb climb Z0 Z1 sg.h sg.e) (by kernel_rfl) ?_
                refine wpAnyL_take (i := 0) (v := ?_) (ch := [11, 12]) rfl (by kernel_rfl) (by kernel_rfl) (by kernel_rfl) (by kernel_rfl) (fun _ _ _ h => h) (Or.inl ⟨by rfl, ?_⟩) hK ?_; rotate_left; (focus (intro w' hSw; obtain ⟨z0, z1, z2, z3, z4⟩ := hSw; go_simp; (try with_reducible rfl))); (try simp only [Act.put, List.setIfInBounds_toArray, List.set_cons_zero, List.set_cons_succ])
                refine wpAnyL_take (i := 1) (v := ?_) (ch := [2, 10, 11, 12]) rfl (by kernel_rfl) (by kernel_rfl) (by kernel_rfl) (by kernel_rfl) (fun _ _ _ h => h) (Or.inl ⟨by rfl, ?_⟩) hK ?_; rotate_left; (focus (intro w' hSw; obtain ⟨z0, z1, z2, z3, z4⟩ := hSw; go_simp; (try with_reducible rfl))); (try simp only [Act.put, List.setIfInBounds_toArray, List.set_cons_zero, List.set_cons_succ])
                refine wpAnyL_take (i := 2) (v := ?_) (ch := [10, 11, 12]) rfl (by kernel_rfl) (by kernel_rfl) (by kernel_rfl) (by kernel_rfl) (fun _ _ _ h => h) (Or.inl ⟨by rfl, ?_⟩) hK ?_; rotate_left; (focus (intro w' hSw; obtain ⟨z0, z1, z2, z3, z4⟩ := hSw; go_simp; (try with_reducible rfl))); (try simp only [Act.put, List.setIfInBounds_toArray, List.set_cons_zero, List.set_cons_succ])
                refine wpAnyL_take (i := 3) (v := ?_) (ch := [4, 9, 10, 11, 12]) rfl (by kernel_rfl) (by kernel_rfl) (by kernel_rfl) (by kernel_rfl) (fun _ _ _ h => h) (Or.inl ⟨by rfl, ?_⟩) hK ?_; rotate_left; (focus (intro w' hSw; obtain ⟨z0, z1, z2, z3, z4⟩ := hSw; go_simp; (try with_reducible rfl))); (try simp only [Act.put, List.setIfInBounds_toArray, List.set_cons_zero, List.set_cons_succ])
                refine wpAnyL_take (i := 4) (v := ?_) (ch := [9, 10, 11, 12]) rfl (by kernel_rfl) (by kernel_rfl) (by kernel_rfl) (by kernel_rfl) (fun _ _ _ h => h) (Or.inl ⟨by rfl, ?_⟩) hK ?_; rotate_left; (focus (intro w' hSw; obtain ⟨z0, z1, z2, z3, z4⟩ := hSw; go_simp; (try with_reducible rfl))); (try simp only [Act.put, List.setIfInBounds_toArray, List.set_cons_zero, List.set_cons_succ])
                refine wpAnyL_take (i := 5) (v := ?_) (ch := [8, 9, 10, 11, 12]) rfl (by kernel_rfl) (by kernel_rfl) (by kernel_rfl) (by kernel_rfl) (fun _ _ _ h => h) (Or.inl ⟨by rfl, ?_⟩) hK ?_; rotate_left; (focus (intro w' hSw; obtain ⟨z0, z1, z2, z3, z4⟩ := hSw; go_simp; (try with_reducible rfl))); (try simp only [Act.put, List.setIfInBounds_toArray, List.set_cons_zero, List.set_cons_succ])
                refine wpAnyL_take (i := 6) (v := ?_) (ch := [7, 8, 9, 10, 11, 12]) rfl (by kernel_rfl) (by kernel_rfl) (by kernel_rfl) (by kernel_rfl) (fun _ _ _ h => h) (Or.inl ⟨by rfl, ?_⟩) hK ?_; rotate_left; (focus (intro w' hSw; obtain ⟨z0, z1, z2, z3, z4⟩ := hSw; go_simp; (try with_reducible rfl))); (try simp only [Act.put, List.setIfInBounds_toArray, List.set_cons_zero, List.set_cons_succ])
                refine wpAnyL_take (i := 7) (v := ?_) (ch := [8, 9, 10, 11, 12]) rfl (by kernel_rfl) (by kernel_rfl) (by kernel_rfl) (by kernel_rfl) (fun _ _ _ h => h) (Or.inl ⟨by rfl, ?_⟩) hK ?_; rotate_left; (focus (intro w' hSw; obtain ⟨z0, z1, z2, z3, z4⟩ := hSw; go_simp; (try with_reducible rfl))); (try simp only [Act.put, List.setIfInBounds_toArray, List.set_cons_zero, List.set_cons_succ])
                refine wpAnyL_take (i := 8) (v := ?_) (ch := [9, 10, 11, 12]) rfl (by kernel_rfl) (by kernel_rfl) (by kernel_rfl) (by kernel_rfl) (fun _ _ _ h => h) (Or.inl ⟨by rfl, ?_⟩) hK ?_; rotate_left; (focus (intro w' hSw; obtain ⟨z0, z1, z2, z3, z4⟩ := hSw; go_simp; (try with_reducible rfl))); (try simp only [Act.put, List.setIfInBounds_toArray, List.set_cons_zero, List.set_cons_succ])
                refine wpAnyL_take (i := 9) (v := ?_) (ch := [10, 11, 12]) rfl (by kernel_rfl) (by kernel_rfl) (by kernel_rfl) (by kernel_rfl) (fun _ _ _ h => h) (Or.inl ⟨by rfl, ?_⟩) hK ?_; rotate_left; (focus (intro w' hSw; obtain ⟨z0, z1, z2, z3, z4⟩ := hSw; go_simp; (try with_reducible rfl))); (try simp only [Act.put, List.setIfInBounds_toArray, List.set_cons_zero, List.set_cons_succ])
                refine wpAnyL_one (i := 10) (by kernel_rfl) rfl (fun K' hK' => ?_)
                go_simp
                refine (rabout_any _ _ _ (by omega) (by omega) (by omega) (by omega)).mono ?_
                rintro e w4 ⟨rfl, hbA⟩
                (try dsimp only)
                have hbA := below_drew' hbA
                have hR := hR.below hbA
                have hS := hS.below hbA
                have hK : S12 w.heap.size sb climb Z0 Z1 sg.h sg.e w4 := ⟨(cells2 hR.h).1, (cells2 hR.h).2, (cells6 hR.c).2.2.1, (cells5 hS).2.2.2.1, (cells5 hS).2.2.2.2⟩
                refine hK'.out _ _ (fun _ => hK) ?_
                clear hK' K'
                (try simp only [Act.put, List.setIfInBounds_toArray, List.set_cons_zero, List.set_cons_succ])
                refine wpAnyL_one (i := 11) (by kernel_rfl) rfl (fun K' hK' => ?_)
                go_simp
                refine (rcut_any _ _ _ _ _).mono ?_
                rintro e w5 ⟨rfl, hbA⟩
                (try dsimp only)
                have hR := hR.below hbA
                have hS := hS.below hbA
                have hK : S12 w.heap.size sb climb Z0 Z1 sg.h sg.e w5 := ⟨(cells2 hR.h).1, (cells2 hR.h).2, (cells6 hR.c).2.2.1, (cells5 hS).2.2.2.1, (cells5 hS).2.2.2.2⟩
                refine hK'.out _ _ (fun _ => hK) ?_
                clear hK' K'
                (try simp only [Act.put, List.setIfInBounds_toArray, List.set_cons_zero, List.set_cons_succ])
                obtain ⟨a0, a1⟩ := cells2 hR.h
                have e0 := hR.h.frozen 0
                have e1 := hR.h.frozen 1
                refine wpAnyL_one (i := 12) (by kernel_rfl) rfl (fun K' hK' => ?_)
                go_simp
                refine hK'.out _ _ (fun h => Bool.noConfusion (show true = false from h)) ?_
                clear hK' K'
                refine wpAnyL_done (by kernel_rfl) (NoPanic.normal ?_) _
                (try simp only [Act.put, List.setIfInBounds_toArray, List.set_cons_zero, List.set_cons_succ])
                go_wp2_with fail
                go_roundw
                case rel => exact ⟨k + 1, by omega, by go_num, HRL.out _ (hR.setH (Nat.le_refl _) _ _)⟩
                case measure => simp [intOf]; omega
    · obtain rfl : k = ss.length := by omega
      rw [List.take_length] at hR
      have FIN : Hid (∀ e, e = .returned (.tuple #[.agg #[.int .i64 (whXL speed tick ss), .int .i64 (whXH speed tick ss), .int .i64 (whYL speed tick ss), .int .i64 (whYH speed tick ss)], .agg #[.int .i64 (whZL climb low tick ss), .int .i64 (whZH climb high tick ss)], .bool (decide (whXL speed tick ss ≤ whXH speed tick ss) && decide (whYL speed tick ss ≤ whYH speed tick ss) && decide (whZL climb low tick ss ≤ whZH climb high tick ss))]) → e = RWhereEnd speed climb low high tick ss) := fun e he => by rw [he]; rfl
      change RW w wr w.heap.size _ (whXL speed tick ss) (whXH speed tick ss) (whYL speed tick ss) (whYH speed tick ss) (whZL climb low tick ss) (whZH climb high tick ss) at hR
      clear HV HSG
      generalize whXL speed tick ss = A0 at *
      generalize whXH speed tick ss = A1 at *
      generalize whYL speed tick ss = A2 at *
      generalize whYH speed tick ss = A3 at *
      generalize whZL climb low tick ss = A4 at *
      generalize whZH climb high tick ss = A5 at *
      obtain ⟨m0, m1, m2, m3, m4, m5⟩ := cells6 hR.c
      obtain ⟨a0, a1, a2, a3⟩ := cells4 hR.a
      obtain ⟨h0, h1⟩ := cells2 hR.h
      obtain ⟨r0, r1, r2, r3⟩ := cells4 hR.r
      obtain ⟨k0, k1⟩ := cells2 hR.q
      have f0 := hR.r.frozen 0
      have f1 := hR.r.frozen 1
      have f2 := hR.r.frozen 2
      have f3 := hR.r.frozen 3
      have f4 := hR.q.frozen 0
      have f5 := hR.q.frozen 1
      have HR := Lib.hid hR
      clear hR
      by_cases d1 : A0 ≤ A1
      · by_cases d2 : A2 ≤ A3
        · by_cases d3 : A4 ≤ A5
          · go_wp2_with fail
            go_region
            all_goals (go_wp2_with fail)
            obtain ⟨y1, y2⟩ := st42_at HR.out.r HR.out.q (by omega) (.int .i64 A0) (.int .i64 A1) (.int .i64 A2) (.int .i64 A3) (.int .i64 A4) (.int .i64 A5)
            obtain ⟨x0, x1, x2, x3⟩ := cells4 y1
            obtain ⟨x4, x5⟩ := cells2 y2
            refine bodyPost_ret (v := .tuple #[.agg #[.int .i64 A0, .int .i64 A1, .int .i64 A2, .int .i64 A3], .agg #[.int .i64 A4, .int .i64 A5], .bool true]) (by simp [results, Tryz.results95, go_sem, x0, x1, x2, x3, x4, x5]) rfl ⟨FIN.out _ (by simp [*]), ?_⟩
            exact (st42_below HR.out.b (by omega) (by omega) _ _ _ _ _ _).drew
          · have e3 : decide (A4 ≤ A5) = false := decide_eq_false d3
            go_wp2_with fail
            go_region
            all_goals (go_wp2_with fail)
            obtain ⟨y1, y2⟩ := st42_at HR.out.r HR.out.q (by omega) (.int .i64 A0) (.int .i64 A1) (.int .i64 A2) (.int .i64 A3) (.int .i64 A4) (.int .i64 A5)
            obtain ⟨x0, x1, x2, x3⟩ := cells4 y1
            obtain ⟨x4, x5⟩ := cells2 y2
            refine bodyPost_ret (v := .tuple #[.agg #[.int .i64 A0, .int .i64 A1, .int .i64 A2, .int .i64 A3], .agg #[.int .i64 A4, .int .i64 A5], .bool false]) (by simp [results, Tryz.results95, go_sem, x0, x1, x2, x3, x4, x5]) rfl ⟨FIN.out _ (by simp [*]), ?_⟩
            exact (st42_below HR.out.b (by omega) (by omega) _ _ _ _ _ _).drew
        · have e2 : decide (A2 ≤ A3) = false := decide_eq_false d2
          go_wp2_with fail
          go_region
          all_goals (go_wp2_with fail)
          obtain ⟨y1, y2⟩ := st42_at HR.out.r HR.out.q (by omega) (.int .i64 A0) (.int .i64 A1) (.int .i64 A2) (.int .i64 A3) (.int .i64 A4) (.int .i64 A5)
          obtain ⟨x0, x1, x2, x3⟩ := cells4 y1
          obtain ⟨x4, x5⟩ := cells2 y2
          refine bodyPost_ret (v := .tuple #[.agg #[.int .i64 A0, .int .i64 A1, .int .i64 A2, .int .i64 A3], .agg #[.int .i64 A4, .int .i64 A5], .bool false]) (by simp [results, Tryz.results95, go_sem, x0, x1, x2, x3, x4, x5]) rfl ⟨FIN.out _ (by simp [*]), ?_⟩
          exact (st42_below HR.out.b (by omega) (by omega) _ _ _ _ _ _).drew
      · have e1 : decide (A0 ≤ A1) = false := decide_eq_false d1
        go_wp2_with fail
        go_region
        all_goals (go_wp2_with fail)
        obtain ⟨y1, y2⟩ := st42_at HR.out.r HR.out.q (by omega) (.int .i64 A0) (.int .i64 A1) (.int .i64 A2) (.int .i64 A3) (.int .i64 A4) (.int .i64 A5)
        obtain ⟨x0, x1, x2, x3⟩ := cells4 y1
        obtain ⟨x4, x5⟩ := cells2 y2
        refine bodyPost_ret (v := .tuple #[.agg #[.int .i64 A0, .int .i64 A1, .int .i64 A2, .int .i64 A3], .agg #[.int .i64 A4, .int .i64 A5], .bool false]) (by simp [results, Tryz.results95, go_sem, x0, x1, x2, x3, x4, x5]) rfl ⟨FIN.out _ (by simp [*]), ?_⟩
        exact (st42_below HR.out.b (by omega) (by omega) _ _ _ _ _ _).drew
end Go.Proofs.YtmglbegbijofkaaGreatDoor
