/- The evaluator: operations, second part. -/
import Derived.Test.YtkjajpfgdjfcoaaGreatDoorEb
set_option linter.unusedVariables false
set_option linter.unusedSimpArgs false
section
namespace Ev
open Go

section
variable {E : Env} {G : Good} {ρ : Rho} {st : St} {w : World} {T : Tr AV} {a : Act} {o : Oper}

/-! ### slices of slices -/
/-- an optional bound that is read -/
theorem optInt_ok {x : Option AV} {y : Option Value} {d n : Nat} (h : match x, y with | none, none => True | some u, some v => VR ρ u v | _, _ => False) (hn : optInt x d = some n) (top : Nat) (code : BoundsCode) (w : World) :
    match y with
    | none => n = d
    | some v => n ≤ top → (Instr.sliceBound v top code).run E.P w = .ok n w := by
  cases x with
  | none => cases y with
    | none => simpa [optInt] using hn.symm
    | some v => exact h.elim
  | some u => cases y with
    | none => exact h.elim
    | some v =>
      simp only [optInt] at hn
      split at hn
      · rename_i i hi
        obtain ⟨k, rfl⟩ := intOf_ok h hi
        split at hn
        · rename_i h0
          cases hn
          intro hle
          have hb : 0 ≤ i ∧ i ≤ (top : Int) := ⟨h0, by omega⟩
          simp [Instr.sliceBound, asIntOf, hb]
        · cases hn
      · cases hn

def OptR (ρ : Rho) (x : Option AV) (y : Option Value) : Prop := match x, y with | none, none => True | some u, some v => VR ρ u v | _, _ => False

theorem sliceBounds_ok {mx hi lo : Option AV} {mx' hi' lo' : Option Value} (hm : OptR ρ mx mx') (hh : OptR ρ hi hi') (hl : OptR ρ lo lo') {len cap capA m h l : Nat} (isS : Bool) (h1 : optInt mx capA = some m) (h2 : optInt hi len = some h) (h3 : optInt lo 0 = some l)
    (hlh : l ≤ h) (hhm : h ≤ m) (hmc : m ≤ capA) (hc : capA ≤ cap) (hmh : mx.isSome = true → hi.isSome = true) (w : World) :
    (Instr.sliceBounds isS len cap lo' hi' mx').run E.P w = .ok (l, h, if mx.isSome then m else cap) w := by
  have hle : l ≤ h := hlh
  unfold Instr.sliceBounds
  cases mx with
  | none =>
    cases mx' with
    | some _ => exact hm.elim
    | none =>
    have hm' : m = capA := by simpa [optInt] using h1.symm
    subst hm'
    cases hi with
    | none =>
      cases hi' with
      | some _ => exact hh.elim
      | none =>
      have : h = len := by simpa [optInt] using h2.symm
      subst this
      cases lo with
      | none =>
        cases lo' with
        | some _ => exact hl.elim
        | none =>
        have : l = 0 := by simpa [optInt] using h3.symm
        subst this
        simp
      | some u =>
        cases lo' with
        | none => exact hl.elim
        | some v =>
        have := optInt_ok (E := E) (ρ := ρ) (x := some u) (y := some v) hl h3 h .sliceB w hlh
        simp [this]
    | some u =>
      cases hi' with
      | none => exact hh.elim
      | some v =>
      have hb := fun code => optInt_ok (E := E) (ρ := ρ) (x := some u) (y := some v) hh h2 cap code w (by omega)
      cases lo with
      | none =>
        cases lo' with
        | some _ => exact hl.elim
        | none =>
        have : l = 0 := by simpa [optInt] using h3.symm
        subst this
        simp [hb]
      | some u' =>
        cases lo' with
        | none => exact hl.elim
        | some v' =>
        have := optInt_ok (E := E) (ρ := ρ) (x := some u') (y := some v') hl h3 h .sliceB w hlh
        simp [hb, this]
  | some um =>
    cases mx' with
    | none => exact hm.elim
    | some vm =>
    have hbm := fun code => optInt_ok (E := E) (ρ := ρ) (x := some um) (y := some vm) hm h1 cap code w (by omega)
    cases hi with
    | none => exact absurd (hmh rfl) (by simp)
    | some u =>
      cases hi' with
      | none => exact hh.elim
      | some v =>
      have hb := fun code => optInt_ok (E := E) (ρ := ρ) (x := some u) (y := some v) hh h2 m code w (by omega)
      cases lo with
      | none =>
        cases lo' with
        | some _ => exact hl.elim
        | none =>
        have : l = 0 := by simpa [optInt] using h3.symm
        subst this
        simp [hb, hbm]
      | some u' =>
        cases lo' with
        | none => exact hl.elim
        | some v' =>
        have := fun code => optInt_ok (E := E) (ρ := ρ) (x := some u') (y := some v') hl h3 h code w hlh
        simp [hb, hbm, this]

theorem OptR.evalO (hR : Rel E G ρ st w.heap) (hE : ER ρ T a.tmps) {x : Option Operand} (hx : ∀ y, x = some y → goodX E.P.globals.size y = true) : OptR ρ (x.map (Ev.evalO T)) (x.map a.eval) := by
  cases x with
  | none => trivial
  | some y => exact VR.evalO hE (fun i hi => hR.glob i hi) (hx y rfl)

theorem opSlice_ok (hOK : EOK E) (hR : Rel E G ρ st w.heap) (hE : ER ρ T a.tmps) (ho : goodOp E.P.globals.size o = true) {t : TypeId} {x : Operand} {lo hi mx : Option Operand} (hop : o.op = .slice t x lo hi mx) (hx : goodX E.P.globals.size x = true)
    (hlo : ∀ y, lo = some y → goodX E.P.globals.size y = true) (hhi : ∀ y, hi = some y → goodX E.P.globals.size y = true) (hmx : ∀ y, mx = some y → goodX E.P.globals.size y = true) :
    OpR E G ρ st w ((execOp a.eval o).run E.P w) (opSlice E o T st t x lo hi mx) := by
  have hpure := aPure_ok hR hE ho
  have h1 := VR.evalO hE (fun i hi => hR.glob i hi) hx
  have rl := OptR.evalO hR hE hlo
  have rh := OptR.evalO hR hE hhi
  have rm := OptR.evalO hR hE hmx
  unfold opSlice
  split
  · exact hpure
  · split
    · rename_i v hv
      simp only [execOp, hop]
      generalize evalO T x = u at h1 hv
      generalize a.eval x = z at h1
      generalize lo.map (evalO T) = alo at rl hv
      generalize hi.map (evalO T) = ahi at rh hv
      generalize mx.map (evalO T) = amx at rm hv
      unfold aSlice at hv
      split at hv
      · rename_i ti hti
        obtain ⟨d, hd, hu⟩ := (hOK.ty _ _ hti).run_underlying
        split at hv
        · -- an array behind an address
          rename_i n es ea b off hk
          rw [hk] at hd
          obtain ⟨e, rfl, rfl, _, hkn⟩ := hd
          cases h1 with
          | @ptr _ _ bb ee hi' =>
          split at hv
          · rename_i m hm
            split at hv
            · rename_i h hh
              split at hv
              · rename_i l hl
                split at hv
                · rename_i hc
                  cases hv
                  have hb := sliceBounds_ok (E := E) rm rh rl (cap := n) false hm hh hl hc.1 hc.2.1 hc.2.2.1 (Nat.le_refl _) hc.2.2.2 w
                  have hmm : (if amx.isSome = true then m else n) = m := by
                    cases amx with
                    | none => simpa [optInt] using hm
                    | some _ => rfl
                  rw [hmm] at hb
                  refine .of_still hR ⟨.slice (some (if m = l then ⟨bb, off, none⟩ else (⟨bb, off, none⟩ : Addr).add (l * E.P.cellsOf e))) (h - l) (m - l), ?_, ?_⟩
                  · simp [Instr.sliceAt, hu, Instr.sureAddr, hb, run_sizeOf' hkn]
                  · by_cases hml : m = l
                    · simp only [hml, if_true]; exact .sl (x := false) hi'
                    · simp only [hml, if_false, addr_add]; exact .sl (x := false) hi'
                · cases hv
              · cases hv
            · cases hv
          · cases hv
        · -- a slice
          rename_i el es by_ b off len cap ext hk
          rw [hk] at hd
          obtain ⟨rfl, rfl, _, hkn⟩ := hd
          cases h1 with
          | @sl _ _ _ _ bb ee _ hi' =>
          split at hv
          · rename_i m hm
            split at hv
            · rename_i h hh
              split at hv
              · rename_i l hl
                split at hv
                · rename_i hc
                  have hb := sliceBounds_ok (E := E) rm rh rl (cap := if ext = true then cap + ee else cap) true hm hh hl hc.1 hc.2.1 hc.2.2.1 (by split <;> omega) hc.2.2.2 w
                  split at hv
                  · rename_i hx'
                    have hext : ext = true := by cases ext <;> simp_all
                    have hnone : amx.isSome = false := by cases amx <;> simp_all
                    have hmc : m = cap := by
                      cases amx with
                      | none => simpa [optInt] using hm.symm
                      | some _ => simp at hnone
                    subst hext
                    simp only [hnone, Bool.false_eq_true, if_false, if_true] at hb
                    split at hv
                    · rename_i hlc
                      cases hv
                      have hhl : h - l = 0 := by omega
                      refine .of_still hR ⟨.slice (some (if cap + ee = l then ⟨bb, off, none⟩ else (⟨bb, off, none⟩ : Addr).add (l * E.P.cellsOf el))) (h - l) (cap + ee - l), ?_, ?_⟩
                      · simp [Instr.sliceAt, Instr.slice, hu, hb, run_sizeOf' hkn]
                        split <;> rfl
                      · rw [hhl]; exact .nes _ _
                    · rename_i hlc
                      cases hv
                      have hne : ¬ (cap + ee = l ∧ l ≠ 0) := by omega
                      refine .of_still hR ⟨.slice (some ⟨bb, off + l * E.P.cellsOf el, none⟩) (h - l) (cap + ee - l), ?_, ?_⟩
                      · simp [Instr.sliceAt, Instr.slice, hu, hb, run_sizeOf' hkn, addr_add]
                        by_cases hl0 : cap + ee = l
                        · have : l = 0 := by omega
                          subst this
                          simp [hl0]
                        · simp [hl0]
                      · have : cap + ee - l = (if true = true then (m - l) + ee else m - l) := by simp; omega
                        rw [this]
                        exact .sl hi'
                  · rename_i hx'
                    cases hv
                    have hmm : (if amx.isSome = true then m else if ext = true then cap + ee else cap) = m := by
                      cases amx with
                      | none =>
                        have : m = cap := by simpa [optInt] using hm.symm
                        cases ext <;> simp_all
                      | some _ => rfl
                    rw [hmm] at hb
                    refine .of_still hR ⟨.slice (some (if m = l then ⟨bb, off, none⟩ else (⟨bb, off, none⟩ : Addr).add (l * E.P.cellsOf el))) (h - l) (m - l), ?_, ?_⟩
                    · simp [Instr.sliceAt, Instr.slice, hu, hb, run_sizeOf' hkn]
                      split <;> rfl
                    · by_cases hml : m = l
                      · simp only [hml, if_true]; exact .sl (x := false) hi'
                      · simp only [hml, if_false, addr_add]; exact .sl (x := false) hi'
                · cases hv
              · cases hv
            · cases hv
          · cases hv
        · -- the empty end of a slice
          rename_i el es by_ hk
          rw [hk] at hd
          obtain ⟨rfl, rfl, _, hkn⟩ := hd
          cases h1 with
          | nes ad c =>
          split at hv
          · rename_i hm hh hl
            split at hv
            · cases hv
            · rename_i hns
              cases hv
              have hnone : amx.isSome = false := by simpa using hns
              have hb := sliceBounds_ok (E := E) rm rh rl (cap := c) (capA := 0) true hm hh hl (Nat.le_refl _) (Nat.le_refl _) (Nat.le_refl _) (Nat.zero_le _) (by simp [hnone]) w
              simp only [hnone, Bool.false_eq_true, if_false] at hb
              refine .of_still hR ⟨.slice (some (if c = 0 then ad else ad.add 0)) 0 c, ?_, .nes _ _⟩
              simp [Instr.sliceAt, Instr.slice, hu, hb, run_sizeOf' hkn]
              split <;> rfl
          · cases hv
        · -- the nil slice
          rename_i el es by_ hk
          rw [hk] at hd
          obtain ⟨rfl, rfl, _, hkn⟩ := hd
          cases h1
          split at hv
          · rename_i hm hh hl
            split at hv
            · cases hv
            · rename_i hns
              cases hv
              have hmh : amx.isSome = true → ahi.isSome = true := by
                intro h
                cases ahi with
                | none => simp [h] at hns
                | some _ => rfl
              have hb := sliceBounds_ok (E := E) rm rh rl (cap := 0) (capA := 0) true hm hh hl (Nat.le_refl _) (Nat.le_refl _) (Nat.le_refl _) (Nat.zero_le _) hmh w
              have h00 : (if amx.isSome = true then 0 else 0) = 0 := by split <;> rfl
              rw [h00] at hb
              refine .of_still hR ⟨.slice none 0 0, ?_, .val _⟩
              simp [Instr.sliceAt, Instr.slice, hu, hb, run_sizeOf' hkn]
          · cases hv
        · cases hv
      · cases hv
    · trivial
end
end Ev
end

section
namespace Ev
open Go

section
variable {E : Env} {G : Good} {ρ : Rho} {st : St} {w : World} {T : Tr AV} {a : Act} {o : Oper}

/-! ### append, copy -/
theorem lenOf_ok {x : AV} {y : Value} (h : VR ρ x y) {n : Nat} (hn : lenOf x = some n) (w : World) : (Builtin.lenOf y).run E.P w = .ok n w := by
  unfold lenOf at hn
  split at hn <;> cases hn <;> cases h <;> rfl

theorem loadCells_all (hR : Rel E G ρ st w.heap) {i b e ofs n : Nat} (hi : ρ i = some (b, e)) {cs : List AV} (h : Ev.loadCells st i ofs n = some cs) :
    ∃ vs, (∀ w' : World, w'.heap = w.heap → (Go.loadCells ⟨b, ofs, none⟩ n).run E.P w' = .ok ⟨vs⟩ w') ∧ VRs ρ cs vs ∧ vs.length = n := by
  obtain ⟨vs, h1, h2, h3⟩ := loadCells_ok hR hi h
  refine ⟨vs, fun w' hw => ?_, h2, h3⟩
  obtain ⟨vs', h1', _, _⟩ := loadCells_ok (w := w') (by rw [hw]; exact hR) hi h
  have hcell : ∀ ad, w'.cell? ad = w.cell? ad := fun ad => by simp [World.cell?, hw]
  unfold Ev.loadCells at h
  split at h
  · rename_i all el x hg
    obtain ⟨us, rest, fr, g1, g2, g3, g4, g5⟩ := rel_cells hR hi hg
    dsimp only at h
    split at h
    · rename_i hl
      have hlen : ((us ++ rest).drop ofs |>.take n).length = n := by
        have := ((g2.drop ofs).take n).length
        rw [hl] at this
        simp at this ⊢
        omega
      have r1 := run_loadCells' (P := E.P) w b ofs n g1 hlen
      have r2 := run_loadCells' (P := E.P) w' b ofs n (by rw [hw]; exact g1) hlen
      rw [h1] at r1
      injection r1 with r1 _
      rw [r1]
      exact r2
    · cases h
  · cases h

theorem firstCells_all (hR : Rel E G ρ st w.heap) {x : AV} {y : Value} (h : VR ρ x y) {es n : Nat} (hnes : x = .nes → n = 0) {cs : List AV} (hc : firstCells st es n x = some cs) :
    ∃ vs, (∀ w' : World, w'.heap = w.heap → (Builtin.firstCells es n y).run E.P w' = .ok ⟨vs⟩ w') ∧ VRs ρ cs vs := by
  unfold firstCells at hc
  split at hc
  · cases h with
    | sl hi =>
    split at hc
    · rename_i h0
      cases hc
      exact ⟨[], fun w' _ => by simp [Builtin.firstCells, h0, Go.loadCells, loadCellsFrom], .nil⟩
    · rename_i k
      obtain ⟨vs, h1, h2, h3⟩ := loadCells_all hR hi hc
      exact ⟨vs, fun w' hw => by simpa [Builtin.firstCells] using h1 w' hw, h2⟩
  · cases hc; cases h; exact ⟨[], fun _ _ => rfl, .nil⟩
  · cases hc; cases h
    have := hnes rfl
    subst this
    exact ⟨[], fun _ _ => by simp [Builtin.firstCells, Go.loadCells, loadCellsFrom], .nil⟩
  · rename_i b
    cases hc; cases h
    have hval : ∀ l : List UInt8, VRs ρ (l.map fun x => AV.val (.int .u8 x.toNat)) (l.map fun x => Value.int .u8 x.toNat) := by
      intro l
      induction l with
      | nil => exact .nil
      | cons x l ih => exact .cons (.val _) ih
    refine ⟨((b.data.toList.take n).map fun x => Value.int .u8 x.toNat), fun w' _ => ?_, by rw [ltake_length]; exact hval _⟩
    simp only [Builtin.firstCells, Sem.run_pure]
    congr 1
    apply Array.ext'
    simp
  · cases hc

theorem firstCells_ok (hR : Rel E G ρ st w.heap) {x : AV} {y : Value} (h : VR ρ x y) {es n : Nat} (hnes : x = .nes → n = 0) {cs : List AV} (hc : firstCells st es n x = some cs) :
    ∃ vs, (Builtin.firstCells es n y).run E.P w = .ok ⟨vs⟩ w ∧ VRs ρ cs vs := by
  obtain ⟨vs, h1, h2⟩ := firstCells_all hR h hnes hc
  exact ⟨vs, h1 w rfl, h2⟩

theorem firstCells_take {es len b cap : Nat} {x xx : Bool} {old cs : List AV} {el : TypeId} (h : firstCells st es len (.sl b 0 len cap x) = some old) (hg : st.h.get b = some (.cells cs el xx)) : old = ltake (len * es) cs ∧ old.length = len * es := by
  simp only [firstCells] at h
  split at h
  · rename_i h0; cases h; rw [h0]; exact ⟨rfl, rfl⟩
  · rename_i k hk
    unfold Ev.loadCells at h
    rw [hg] at h
    dsimp only at h
    split at h
    · rename_i hl
      cases h
      have : ∀ n, n = len * es → (n = 0 → False) → ltake n (ldrop 0 cs) = ltake (len * es) cs := by
        intro n hn _; rw [hn]; simp [ldrop]
      exact ⟨by simp [ldrop], hl⟩
    · cases h

theorem growBy_le (n : Nat) : ∀ (r c : Nat), c ≤ 2 * n + 192 → Builtin.growBy n r c ≤ 2 * n + 192
  | 0, c, h => h
  | r + 1, c, h => by
    unfold Builtin.growBy
    split
    · exact h
    · apply growBy_le n r
      omega

theorem next_le {n c : Nat} (h : c < n) : Builtin.nextslicecap n c ≤ n * 4 + 4096 := by
  unfold Builtin.nextslicecap
  split
  · omega
  · split
    · omega
    · have := growBy_le n 4 c (by omega); omega

theorem KOK.noInt {P : Program} {d : TypeDesc} {k : TK} (h : KOK P d k) (hns : ∀ q, k ≠ .sc q) : (match d with | .int _ => true | _ => false) = false := by
  cases k <;> simp only [KOK] at h
  · exact absurd rfl (hns _)
  · obtain ⟨_, rfl, _⟩ := h; rfl
  · obtain ⟨_, _, _, rfl⟩ := h; rfl
  · obtain ⟨_, rfl, _⟩ := h; rfl
  · obtain ⟨_, rfl, _⟩ := h; rfl
  · obtain ⟨rfl, _⟩ := h; rfl
  · obtain ⟨_, rfl⟩ := h; rfl
  · subst h; rfl
  · subst h; rfl
  · cases d <;> first | rfl | exact h.elim

/-- an append that does not fit -/
theorem append_grow {t u : TypeId} {ty : TypeId} {el : TypeId} {ti tu te : TI} (hOK : EOK E) (hti : E.ty t = some ti) (htu : E.ty u = some tu) (hk : ∃ bytes, ti.k = .slice el te.size bytes ∧ bytes = E.P.bytesOf el) (hte : E.ty el = some te)
    (hns : ∀ k, tu.k ≠ .sc k) {base : Option Addr} {len cap n : Nat} {y : Value} {old new : List Value} (hl : (Builtin.lenOf y).run E.P w = .ok n w) (hcap : cap < len + n)
    (hb : ((len + n) * 4 + 4096) * E.P.bytesOf el ≤ 2 ^ 48 ∧ len + n ≤ 2 ^ 48) (hold : ∀ w' : World, w'.heap = w.heap → (Builtin.firstCells te.size len (.slice base len cap)).run E.P w' = .ok ⟨old⟩ w')
    (hnew : ∀ w' : World, w'.heap = w.heap → (Builtin.firstCells te.size n y).run E.P w' = .ok ⟨new⟩ w') :
    ∃ w' rest nc, (Builtin.append_ #[t, u] ty #[.slice base len cap, y]).run E.P w = .ok (.slice (some ⟨w.heap.size, 0, none⟩) (len + n) nc) w' ∧ w'.heap = w.heap.push (.cells ⟨old ++ new ++ rest⟩ el) ∧ Same w w' ∧
      len + n ≤ nc ∧ rest.length = (nc - (len + n)) * te.size := by
  obtain ⟨d, hd, hu⟩ := (hOK.ty _ _ hti).run_underlying
  obtain ⟨bytes, hk, hbytes⟩ := hk
  rw [hk] at hd
  obtain ⟨rfl, hes, _, hkn⟩ := hd
  obtain ⟨du, hdu, huu⟩ := (hOK.ty _ _ htu).run_underlying
  have hzs := KOK.noInt hdu hns
  have hel := hOK.ty _ _ hte
  obtain ⟨d', info, z', i1, i2, i3, i4, _⟩ := hel.ex
  have hty : ∀ w, (typeInfo el).run E.P w = .ok info w := fun w => by simp [typeInfo, i2]
  have hbi : E.P.bytesOf el = info.bytes := by simp [Program.bytesOf, i2]
  rw [hbi] at hb
  obtain ⟨hb1, hb2⟩ := hb
  have hfit : ¬ (len + n ≤ cap) := by omega
  have hnx : ¬ (Builtin.nextslicecap (len + n) cap * info.bytes > 2 ^ 48) := by
    have := next_le hcap
    have := Nat.mul_le_mul_right info.bytes this
    omega
  have hbig : ¬ (((len + n : Nat) : Int) > IntKind.i64.max ∧ ((false = true) ∨ info.bytes = 0)) := by
    intro h
    have h1 := h.1
    have : IntKind.i64.max = 9223372036854775807 := by decide
    rw [this] at h1
    have : (2 : Nat) ^ 48 < 9223372036854775807 := by decide
    omega
  let w1 : World := { w with drawn := w.drawn + 1 }
  let nc := (Question.appendCap (len + n) cap el).cut (w.tape w.drawn (.appendCap (len + n) cap el))
  have hnc : len + n ≤ nc := by
    show len + n ≤ (len + n) + _
    exact Nat.le_add_right _ _
  obtain ⟨z, hz, hzv, hzsz, _⟩ := hel.zero_run w1
  have hsz := run_sizeOf' hkn
  rw [hel.size] at hsz
  have hch : (choose (.appendCap (len + n) cap el)).run E.P w = .ok nc w1 := by
    simp [Question.forced]
    exact ⟨rfl, rfl⟩
  refine ⟨{ w1 with heap := w1.heap.push (.cells ⟨old ++ new ++ (Builtin.zeroCells z.cells (nc - (len + n))).toList⟩ el) }, (Builtin.zeroCells z.cells (nc - (len + n))).toList, nc, ?_, rfl, ⟨rfl, rfl, rfl⟩, hnc, ?_⟩
  · have hmu : (underlying u).run E.P w = .ok du w := huu w
    have hlist : ((⟨old⟩ : Array Value) ++ ⟨new⟩ ++ Builtin.zeroCells z.cells (nc - (len + n))) = ⟨old ++ new ++ (Builtin.zeroCells z.cells (nc - (len + n))).toList⟩ := by
      apply Array.ext'; simp
    unfold Builtin.append_
    simp only [List.getElem?_toArray, List.getElem?_cons_zero, List.getElem?_cons_succ, Sem.run_bind, hu, Result.andThen_ok, hsz, hmu, Sem.run_pure]
    cases du <;> first
      | (cases hzs; done)
      | (simp only [Bool.false_eq_true, if_false, Sem.run_bind, hl, Result.andThen_ok, hfit, Sem.run_ite, hty, false_or]
         rw [if_neg (by intro h; exact hbig ⟨h.1, .inr h.2⟩)]
         simp only [Sem.run_bind, hty, Result.andThen_ok, Sem.run_ite, hnx, if_false, hch, run_askRoom, hold w1 rfl, Bool.not_false, if_true, hnew w1 rfl, hz, newRow, run_newObj, Sem.run_pure]
         rw [hlist])
  · simp [Builtin.zeroCells, hzsz]
/-- an append that fits -/
theorem append_fits {t u : TypeId} {ty : TypeId} {el : TypeId} {es bytes : Nat} {ti tu : TI} (hOK : EOK E) (hti : E.ty t = some ti) (htu : E.ty u = some tu) (hk : ti.k = .slice el es bytes)
    (hns : ∀ k, tu.k ≠ .sc k) {b off : Nat} {len cap n : Nat} {y : Value} {new : List Value} (hl : (Builtin.lenOf y).run E.P w = .ok n w) (hcap : len + n ≤ cap)
    (hnew : (Builtin.firstCells es n y).run E.P w = .ok ⟨new⟩ w) {w' : World} (hs : (Go.storeCells ⟨b, off + len * es, none⟩ new).run E.P w = .ok () w') :
    (Builtin.append_ #[t, u] ty #[.slice (some ⟨b, off, none⟩) len cap, y]).run E.P w = .ok (.slice (some ⟨b, off, none⟩) (len + n) cap) w' := by
  obtain ⟨d, hd, hu⟩ := (hOK.ty _ _ hti).run_underlying
  rw [hk] at hd
  obtain ⟨rfl, rfl, _, hkn⟩ := hd
  obtain ⟨du, hdu, huu⟩ := (hOK.ty _ _ htu).run_underlying
  have hzs := KOK.noInt hdu hns
  have hmu : (underlying u).run E.P w = .ok du w := huu w
  unfold Builtin.append_
  simp only [List.getElem?_toArray, List.getElem?_cons_zero, List.getElem?_cons_succ, Sem.run_bind, hu, Result.andThen_ok, run_sizeOf' hkn, hmu, Sem.run_pure]
  cases du <;> first
    | (cases hzs; done)
    | (simp only [Bool.false_eq_true, if_false, Sem.run_bind, hl, Result.andThen_ok, hcap, if_true, Bool.not_false, hnew, addr_add, hs, Sem.run_pure])

theorem append_nil {t u : TypeId} {ty : TypeId} {el : TypeId} {es bytes : Nat} {ti tu : TI} (hOK : EOK E) (hti : E.ty t = some ti) (htu : E.ty u = some tu) (hk : ti.k = .slice el es bytes)
    (hns : ∀ k, tu.k ≠ .sc k) {y : Value} {new : List Value} (hl : (Builtin.lenOf y).run E.P w = .ok 0 w) (hnew : (Builtin.firstCells es 0 y).run E.P w = .ok ⟨new⟩ w) :
    (Builtin.append_ #[t, u] ty #[.slice none 0 0, y]).run E.P w = .ok (.slice none 0 0) w := by
  obtain ⟨d, hd, hu⟩ := (hOK.ty _ _ hti).run_underlying
  rw [hk] at hd
  obtain ⟨rfl, rfl, _, hkn⟩ := hd
  obtain ⟨du, hdu, huu⟩ := (hOK.ty _ _ htu).run_underlying
  have hzs := KOK.noInt hdu hns
  have hmu : (underlying u).run E.P w = .ok du w := huu w
  unfold Builtin.append_
  simp only [List.getElem?_toArray, List.getElem?_cons_zero, List.getElem?_cons_succ, Sem.run_bind, hu, Result.andThen_ok, run_sizeOf' hkn, hmu, Sem.run_pure]
  cases du <;> first
    | (cases hzs; done)
    | (simp only [Bool.false_eq_true, if_false, Sem.run_bind, hl, Result.andThen_ok, if_true, Bool.not_false, hnew, Sem.run_pure, Nat.add_zero, Nat.le_refl])

/-- a block that is given up goes on as a new one, in its place -/
theorem Rel.move (hR : Rel E G ρ st w.heap) {i b e e' : Nat} {ob ob' : AObj} {o' : Obj} (hi : st.h.get i = some ob) (hr : ρ i = some (b, e)) {w' : World} (hs : w'.heap.size = w.heap.size) (hk : ∀ c, c ≠ b → w'.heap[c]? = w.heap[c]?)
    (hb : w'.heap[b]? = some o') (ho : OR E G ρ e' ob' o') (hsame : Same w w') :
    Mv E G ρ st w (addρ ρ st.n b e') ((st.upd i none).new ob') w' := by
  obtain ⟨k1, k2⟩ := hR.kill hr
  have hfree : ∀ j e'', live (st.upd i none) j → ρ j ≠ some (b, e'') := by
    rintro j e'' ⟨x, hx⟩ hj
    rcases Tr.put_some (hx : (st.h.put bits i none).get j = some x) with ⟨_, h2⟩ | ⟨hne, hx'⟩
    · cases h2
    · exact hne (hR.inj j i b e'' e ⟨x, hx'⟩ ⟨ob, hi⟩ hj hr)
  obtain ⟨n1, _⟩ := k1.new (h' := w'.heap) (o := ob') (b := b) (e := e') (ob := o') (by rw [hs]; exact Nat.le_refl _) (fun c hc _ => hk c hc) hb ho hfree
  have hn : ρ st.n = none := (hR.fresh st.n (Nat.le_refl _)).1
  have hget : ∀ j x, ((st.upd i none).new ob').h.get j = some x → j = st.n ∨ (j ≠ i ∧ j ≠ st.n ∧ st.h.get j = some x) := by
    intro j x hx
    rcases new_get hx with ⟨h1, _⟩ | ⟨h1, h2⟩
    · exact .inl h1
    · rcases Tr.put_some (h2 : (st.h.put bits i none).get j = some x) with ⟨_, h3⟩ | ⟨h3, h4⟩
      · cases h3
      · exact .inr ⟨h3, h1, h4⟩
  refine ⟨n1, ⟨addρ_le hn, ?_, ?_, Nat.le_succ _, by rw [hs]; exact Nat.le_refl _, ?_, ?_⟩, hsame, rfl⟩
  · intro j hj hr'
    have : j ≠ st.n := by omega
    simpa [addρ, this] using hr'
  · intro j hj hr'
    have h1 : j ≠ i := fun he => by subst he; rw [hr] at hr'; cases hr'
    have h2 : j ≠ st.n := by omega
    show ((st.h.put bits i none).put bits st.n (some ob')).get j = _
    rw [Tr.get_put_ne _ _ _ _ _ h2, Tr.get_put_ne _ _ _ _ _ h1]
  · intro c hc hn'
    exact hk c (fun hcb => hn' i e ⟨ob, hi⟩ (hcb ▸ hr))
  · rintro j c e'' ⟨x, hx⟩ hj
    rcases hget j x hx with rfl | ⟨h1, h2, h3⟩
    · have : (addρ ρ st.n b e') st.n = some (b, e') := addρ_self _ _ _ _
      rw [this] at hj
      injection hj with hj
      injection hj with hj _
      subst hj
      exact .inr ⟨i, e, ⟨ob, hi⟩, hr⟩
    · exact .inr ⟨j, e'', ⟨x, h3⟩, by simpa [addρ, h2] using hj⟩

theorem VR.slExt {i off l c b nc e : Nat} (h : ρ i = some (b, e)) (hc : nc = c + e) : VR ρ (.sl i off l c true) (.slice (some ⟨b, off, none⟩) l nc) := by
  subst hc; exact .sl (x := true) h

theorem grow_new (hR : Rel E G ρ st w.heap) {el : TypeId} {te : TI} (hte : E.ty el = some te) {cs : List AV} {vs rest : List Value} (h : VRs ρ cs vs) {w' : World} (hw : w'.heap = w.heap.push (.cells ⟨vs ++ rest⟩ el)) (hs : Same w w') {e : Nat} (hr : rest.length = e * te.size) :
    Mv E G ρ st w (addρ ρ st.n w.heap.size e) (st.new (.cells cs el true)) w' :=
  Mv.new hR hw hs (.cells vs rest (0, 0) h (fineFr_zero _) (fun h => by cases h) (fun ti hti => by rw [hte] at hti; cases hti; exact hr))

theorem aAppend_ok (hOK : EOK E) (hR : Rel E G ρ st w.heap) {t u ty : TypeId} {tu : TI} (htu : E.ty u = some tu) (hns : ∀ k, tu.k ≠ .sc k) {x y : AV} {x' y' : Value} (hx : VR ρ x x') (hy : VR ρ y y') {v : AV} {st' : St}
    (h : aAppend E t x y st = some (v, st')) : ∃ z w' ρ', (Builtin.append_ #[t, u] ty #[x', y']).run E.P w = .ok z w' ∧ VR ρ' v z ∧ Mv E G ρ st w ρ' st' w' := by
  unfold aAppend at h
  split at h
  · rename_i ti n hti hn
    have hl := lenOf_ok (E := E) hy hn w
    have hnes : y = .nes → n = 0 := by
      intro he; subst he; simpa [lenOf] using hn.symm
    split at h
    · rename_i el es bytes hk
      split at h
      · cases h
      · cases h
      · rename_i te new hte hnew
        obtain ⟨vs, hv1, hv2⟩ := firstCells_all hR hy hnes hnew
        have hel := hOK.ty _ _ hte
        obtain ⟨d, hd, _⟩ := (hOK.ty _ _ hti).run_underlying
        rw [hk] at hd
        obtain ⟨_, hes, hbt, hkn⟩ := hd
        rw [hel.size] at hes
        subst hes
        subst hbt
        split at h
        · rename_i b off len cap xt
          cases hx with
          | @sl _ _ _ _ bb ee _ hi =>
          split at h
          · rename_i hfit
            split at h
            · rename_i s hs
              cases h
              obtain ⟨w', h1, h2⟩ := storeCells_ok hR hi hv2 hs
              refine ⟨_, w', ρ, append_fits hOK hti htu hk hns hl (by split <;> omega) (hv1 w rfl) h1, ?_, h2⟩
              exact .sl hi
            · cases h
          · rename_i hfit
            split at h
            · rename_i cs el' xx hg
              split at h
              · rename_i hb
                split at h
                · cases h
                · rename_i old hold
                  obtain ⟨os, hos1, hos2⟩ := firstCells_all hR (VR.sl (o := off) (l := len) (c := cap) (x := xt) hi) (fun h => by cases h) hold
                  have grow : (if xt = true then cap + ee else cap) < len + n → ∃ w' rest nc, (Builtin.append_ #[t, u] ty #[.slice (some ⟨bb, off, none⟩) len (if xt = true then cap + ee else cap), y']).run E.P w = .ok (.slice (some ⟨w.heap.size, 0, none⟩) (len + n) nc) w' ∧
                      w'.heap = w.heap.push (.cells ⟨os ++ vs ++ rest⟩ el) ∧ Same w w' ∧ len + n ≤ nc ∧ rest.length = (nc - (len + n)) * te.size := fun hc =>
                    append_grow hOK hti htu ⟨_, hk, rfl⟩ hte hns hl hc hb hos1 hv1
                  split at h
                  · rename_i hxt
                    subst hxt
                    simp only [if_true] at grow hos1 ⊢
                    split at h
                    · rename_i hcond
                      obtain ⟨rfl, hcl, rfl, hnl, hall⟩ := hcond
                      cases h
                      by_cases hroom : len + n ≤ cap + ee
                      · obtain ⟨ws, rest, fr, g1, g2, g3, g4, g5⟩ := rel_cells hR hi hg
                        have hrest := g5 te hte
                        have hwl : ws.length = cap * te.size := by rw [← g2.length, hcl]
                        obtain ⟨ho1, ho2⟩ := firstCells_take hold hg
                        have hvl : vs.length = n * te.size := by rw [← hv2.length, hnl]
                        have htot : (ws ++ rest).length = (cap + ee) * te.size := by simp [hwl, hrest, Nat.add_mul]
                        have hle : len * te.size + n * te.size ≤ (cap + ee) * te.size := by rw [← Nat.add_mul]; exact Nat.mul_le_mul_right _ hroom
                        obtain ⟨w', r1, r2, r3, r4, r5⟩ := run_storeCells (P := E.P) bb (0 + len * te.size) el' fr vs (ws ++ rest) 0 w g1 (by simpa using g3) (by rw [htot, hvl]; omega) (hv2.cellsV hall)
                        have holdlen : len * te.size ≤ ws.length := by
                          have : old.length ≤ cs.length := by rw [ho1, ltake_length]; simp; omega
                          rw [ho2, g2.length] at this; exact this
                        have hcont : VRs ρ (old ++ new) (ws.take (len * te.size) ++ vs) := by
                          rw [ho1]; exact (g2.take _).append hv2
                        have hlist : (ws ++ rest).take (0 + len * te.size + 0) ++ vs ++ (ws ++ rest).drop (0 + len * te.size + 0 + vs.length) = (ws.take (len * te.size) ++ vs) ++ (ws ++ rest).drop (len * te.size + vs.length) := by
                          simp only [Nat.zero_add, Nat.add_zero]
                          rw [List.take_append_of_le_length holdlen]
                        rw [hlist] at r2
                        have hr2 : ((ws ++ rest).drop (len * te.size + vs.length)).length = (cap + ee - (len + n)) * te.size := by
                          rw [List.length_drop, htot, hvl, ← Nat.add_mul, ← Nat.sub_mul]
                        have hmv := hR.move (ob' := .cells (old ++ new) el' true) hg hi r3 r4 r2 (.cells _ _ fr hcont (by
                          have e1 : (ws.take (len * te.size)).length = len * te.size := by simp; omega
                          have e2 : ws.length + rest.length = (cap + ee) * te.size := by simpa using htot
                          have : (ws.take (len * te.size) ++ vs).length + ((ws ++ rest).drop (len * te.size + vs.length)).length = ws.length + rest.length := by
                            rw [List.length_append, e1, List.length_drop, List.length_append, hvl]; omega
                          rw [this]; exact g3) (fun h => by cases h) (fun ti' hti' => by rw [hte] at hti'; cases hti'; exact hr2)) r5
                        refine ⟨_, w', _, append_fits hOK hti htu hk hns hl hroom (hv1 w rfl) r1, ?_, hmv⟩
                        exact .slExt (addρ_self _ _ _ _) (by omega)
                      · obtain ⟨w', rest, nc, r1, r2, r3, r4, r5⟩ := grow (by omega)
                        obtain ⟨k1, k2⟩ := hR.kill hi
                        have hmv := (Mv.mk (w' := w) k1 k2 (Same.refl w) rfl).trans (grow_new k1 hte (hos2.append hv2) r2 r3 r5)
                        refine ⟨_, w', _, r1, ?_, hmv⟩
                        exact .slExt (addρ_self _ _ _ _) (by omega)
                    · cases h
                  · rename_i hxt
                    cases h
                    have hxf : xt = false := by simpa using hxt
                    subst hxf
                    obtain ⟨w', rest, nc, r1, r2, r3, r4, r5⟩ := grow (by simp; omega)
                    refine ⟨_, w', _, r1, ?_, grow_new hR hte (hos2.append hv2) r2 r3 r5⟩
                    exact .slExt (addρ_self _ _ _ _) (by omega)
              · cases h
            · cases h
        · cases hx
          split at h
          · cases h
            exact ⟨_, w, ρ, append_nil hOK hti htu hk hns hl (hv1 w rfl), .val _, Mv.refl hR⟩
          · rename_i hn0
            split at h
            · rename_i hb
              cases h
              obtain ⟨w', rest, nc, r1, r2, r3, r4, r5⟩ := append_grow (ty := ty) (base := none) (len := 0) (cap := 0) (old := []) hOK hti htu ⟨_, hk, rfl⟩ hte hns hl (by rcases n with _ | n; exact absurd rfl hn0; omega) (by simpa using hb) (fun _ _ => rfl) hv1
              simp only [List.nil_append, Nat.zero_add] at r1 r2 r4 r5
              refine ⟨_, w', _, r1, ?_, grow_new hR hte hv2 r2 r3 r5⟩
              exact .slExt (addρ_self _ _ _ _) (by omega)
            · cases h
        · cases h
    · cases h
  · cases h
end
end Ev
end

section
namespace Ev
open Go

section
variable {E : Env} {G : Good} {ρ : Rho} {st : St} {w : World} {T : Tr AV} {a : Act} {o : Oper}

theorem aCopy_ok (hOK : EOK E) (hR : Rel E G ρ st w.heap) {t ty : TypeId} {ts : List TypeId} {x y : AV} {x' y' : Value} (hx : VR ρ x x') (hy : VR ρ y y') {n : Nat} {st' : St}
    (h : aCopy E t x y st = some (n, st')) : ∃ w', (Builtin.copy_ ⟨t :: ts⟩ ty #[x', y']).run E.P w = .ok (.int .i64 n) w' ∧ Mv E G ρ st w ρ st' w' := by
  unfold aCopy at h
  split at h
  · rename_i ti d l hti hd hl
    obtain ⟨dd, hdd, hu⟩ := (hOK.ty _ _ hti).run_underlying
    have hly := lenOf_ok (E := E) hy hl w
    split at h
    · rename_i el es by_ hk
      rw [hk] at hdd
      obtain ⟨rfl, rfl, _, hkn⟩ := hdd
      have hnes : y = .nes → Nat.min l d = 0 := by
        intro he; subst he
        have : l = 0 := by simpa [lenOf] using hl.symm
        subst this; exact Nat.zero_min d
      dsimp only at h
      split at h
      · rename_i cs hcs
        obtain ⟨vs, hv1, hv2⟩ := firstCells_ok hR hy hnes hcs
        have run : ∀ (base : Option Addr) (cap : Nat) (w' : World), x' = .slice base d cap → (match base with | some a => (Go.storeCells a vs).run E.P w | none => .ok () w) = .ok () w' →
            (Builtin.copy_ ⟨t :: ts⟩ ty #[x', y']).run E.P w = .ok (.int .i64 (Nat.min l d)) w' := by
          intro base cap w' hb hs
          subst hb
          unfold Builtin.copy_
          cases base with
          | none =>
            injection hs with _ hs; subst hs
            simp [hu, hly, run_sizeOf' hkn, hv1, goInt]
          | some ad => simp [hu, hly, run_sizeOf' hkn, hv1, hs, goInt]
        split at h
        · cases hx with
          | sl hi =>
          split at h
          · rename_i s hs
            cases h
            simp only [lenOf, Option.some.injEq] at hd
            subst hd
            obtain ⟨w', r1, r2⟩ := storeCells_ok hR hi hv2 hs
            exact ⟨w', run _ _ w' rfl r1, r2⟩
          · cases h
        · split at h
          · cases h
            cases hx with
            | nes ad c =>
            simp only [lenOf, Option.some.injEq] at hd
            subst hd
            cases hv2
            exact ⟨w, run (some ad) c w rfl (by simp [Go.storeCells]), Mv.refl hR⟩
          · cases h
        · cases h
          cases hx
          simp only [lenOf, Option.some.injEq] at hd
          subst hd
          exact ⟨w, run none _ w rfl rfl, Mv.refl hR⟩
        · cases h
      · cases h
    · cases h
  · cases h

theorem aAppendZ_ok (hOK : EOK E) (hR : Rel E G ρ st w.heap) {t u ty : TypeId} {tu : TI} {q : IntKind} (htu : E.ty u = some tu) (hsc : tu.k = .sc q) {x : AV} {x' : Value} {k : IntKind} {i : Int} (hi0 : 0 ≤ i) (hx : VR ρ x x') {v : AV} {st' : St}
    (h : aAppendZ E t x i.toNat st = some (v, st')) : ∃ z w' ρ', (Builtin.append_ #[t, u] ty #[x', .int k i]).run E.P w = .ok z w' ∧ VR ρ' v z ∧ Mv E G ρ st w ρ' st' w' := by
  unfold aAppendZ at h
  split at h
  · rename_i ti hti
    cases hx
    obtain ⟨d, hd, hu⟩ := (hOK.ty _ _ hti).run_underlying
    obtain ⟨du, hdu, huu⟩ := (hOK.ty _ _ htu).run_underlying
    rw [hsc] at hdu
    have hdu' : du = .int q := hdu
    subst hdu'
    have hmu : (underlying u).run E.P w = .ok (.int q) w := huu w
    split at h
    · rename_i el es bytes hk
      rw [hk] at hd
      obtain ⟨rfl, rfl, rfl, hkn⟩ := hd
      obtain ⟨inf, hinf⟩ := Option.isSome_iff_exists.1 (by unfold known at hkn; simp only [Bool.and_eq_true] at hkn; exact hkn.1)
      have hty : ∀ w, (typeInfo el).run E.P w = .ok inf w := fun w => by simp [typeInfo, hinf]
      have hbi : E.P.bytesOf el = inf.bytes := by simp [Program.bytesOf, hinf]
      split at h
      · rename_i h0
        cases h
        have hi : i = 0 := by omega
        subst hi
        refine ⟨.slice none 0 0, w, ρ, ?_, .val _, Mv.refl hR⟩
        have hw0 : IntKind.i64.wrap 0 = 0 := wrap_small (by omega) (by omega)
        unfold Builtin.append_
        simp [hu, run_sizeOf' hkn, hmu, asInt, asIntOf, hw0, hty]
      · rename_i hn0
        split at h
        · rename_i te hte
          split at h
          · rename_i hb
            cases h
            have hel := hOK.ty _ _ hte
            obtain ⟨hb1, hb2⟩ := hb
            have hipos : 0 < i.toNat := by
              rcases Nat.eq_zero_or_pos i.toNat with h | h
              · exact absurd h (by intro h; exact hn0 h)
              · exact h
            have hwi : IntKind.i64.wrap i = i := wrap_small hi0 (by omega)
            rw [hbi] at hb1
            have h40 : (2 : Nat) ^ 40 ≤ 2 ^ 48 := by decide
            have hib : ¬ (i * (inf.bytes : Int) > 2 ^ 48) := by
              have h1 : i.toNat * inf.bytes ≤ (i.toNat * 4 + 4096) * inf.bytes := Nat.mul_le_mul_right _ (by omega)
              have h2 : ((i.toNat * inf.bytes : Nat) : Int) = i * inf.bytes := by
                rw [Int.natCast_mul, Int.toNat_of_nonneg hi0]
              rw [← h2]
              omega
            obtain ⟨z, hz0, hzv, hzsz, _⟩ := hel.zero_run w
            have hzr : ∀ w, (zeroValue el).run E.P w = .ok z w := by
              obtain ⟨d', info, z', i1, i2, i3, i4, _⟩ := hel.ex
              intro w1
              have h1 : (zeroValue el).run E.P w = .ok z' w := by simp [zeroValue, typeInfo, i2, i4]
              rw [h1] at hz0
              injection hz0 with hz0 _
              subst hz0
              simp [zeroValue, typeInfo, i2, i4]
            have hrep := repZero_ok (hzv ρ) i.toNat
            have hsz := fun w => run_sizeOf' hkn w
            rw [hel.size] at hsz
            have hnx : ¬ (Builtin.nextslicecap (0 + i.toNat) 0 * inf.bytes > 2 ^ 48) := by
              have := next_le (n := 0 + i.toNat) (c := 0) (by omega)
              have := Nat.mul_le_mul_right inf.bytes this
              simp only [Nat.zero_add] at this ⊢
              omega
            have hbig : ¬ (((0 + i.toNat : Nat) : Int) > IntKind.i64.max) := by
              have : IntKind.i64.max = 9223372036854775807 := by decide
              rw [this]
              have : (2 : Nat) ^ 40 < 9223372036854775807 := by decide
              omega
            let nc := (Question.appendCap (0 + i.toNat) 0 el).cut (w.tape w.drawn (.appendCap (0 + i.toNat) 0 el))
            have hnc : 0 + i.toNat ≤ nc := Nat.le_add_right _ _
            have hch : (choose (.appendCap (0 + i.toNat) 0 el)).run E.P w = .ok nc { w with drawn := w.drawn + 1 } := by
              rw [run_choose]; rfl
            have hfit : ¬ (0 + i.toNat ≤ 0) := by omega
            have hneg : ¬ (i < 0) := by omega
            have hzc : i.toNat * te.size = 0 → Builtin.zeroCells z.cells i.toNat = #[] := by
              intro h0
              unfold Builtin.zeroCells
              rw [hzsz, h0]
              simp
            have hnl : (Builtin.zeroCells z.cells i.toNat).toList = (List.range (i.toNat * z.cells.toList.length)).map fun j => z.cells.toList[j % z.cells.toList.length]! := by
              unfold Builtin.zeroCells
              rw [rep_arr]; simp
            have hlist : ((#[] : Array Value) ++ Builtin.zeroCells z.cells i.toNat ++ Builtin.zeroCells z.cells (nc - (0 + i.toNat))) = ⟨((List.range (i.toNat * z.cells.toList.length)).map fun j => z.cells.toList[j % z.cells.toList.length]!) ++ (Builtin.zeroCells z.cells (nc - (0 + i.toNat))).toList⟩ := by
              apply Array.ext'
              rw [Array.toList_append, Array.toList_append, hnl]; simp
            refine ⟨.slice (some ⟨w.heap.size, 0, none⟩) (0 + i.toNat) nc, _, _, ?_, ?_, grow_new (w' := { w with drawn := w.drawn + 1, heap := w.heap.push (.cells ⟨((List.range (i.toNat * z.cells.toList.length)).map fun j => z.cells.toList[j % z.cells.toList.length]!) ++ (Builtin.zeroCells z.cells (nc - (0 + i.toNat))).toList⟩ el) }) hR hte hrep rfl ⟨rfl, rfl, rfl⟩ (e := nc - i.toNat) (by simp [Builtin.zeroCells, hzsz])⟩
            · unfold Builtin.append_
              simp only [List.getElem?_toArray, List.getElem?_cons_zero, List.getElem?_cons_succ, Sem.run_bind, hu, Result.andThen_ok, hsz, hmu, Sem.run_pure, if_true, asInt, asIntOf, hwi, Sem.run_ite, hneg, if_false, hty, hib, hfit,
                hbig, false_and, hnx, hch, run_askRoom, Builtin.firstCells, Bool.not_true, Bool.false_eq_true, hzr, newRow, run_newObj]
              by_cases h0 : i.toNat * te.size = 0
              · rw [hzc h0] at hlist
                rw [if_pos h0]
                simp only [Result.andThen_ok]
                rw [hlist]
              · rw [if_neg h0]
                simp only [Result.andThen_ok]
                rw [hlist]
            · rw [Nat.zero_add]
              exact .slExt (addρ_self _ _ _ _) (by omega)
          · cases h
        · cases h
    · cases h
  · cases h
end
end Ev
end

section
namespace Ev
open Go

section
variable {E : Env} {G : Good} {ρ : Rho} {st : St} {w : World} {T : Tr AV} {a : Act} {o : Oper}

theorem opTypeAssert_ok (hOK : EOK E) (hR : Rel E G ρ st w.heap) (hE : ER ρ T a.tmps) (ho : goodOp E.P.globals.size o = true) {x : Operand} {xt t : TypeId} {ok : Bool} (hop : o.op = .typeAssert x xt t ok) (hx : goodX E.P.globals.size x = true) :
    OpR E G ρ st w ((execOp a.eval o).run E.P w) (opTypeAssert E o T st x xt t ok) := by
  have hpure := aPure_ok hR hE ho
  have h1 := VR.evalO hE (fun i hi => hR.glob i hi) hx
  unfold opTypeAssert
  split
  · rename_i u v hp
    rw [hp] at h1
    split
    · rename_i ti hti
      obtain ⟨d, hd, hu⟩ := (hOK.ty _ _ hti).run_underlying
      obtain ⟨z, hz1, hz2, hz3, hz4⟩ := (hOK.ty _ _ hti).zero_run w
      split
      · exact hpure
      · rename_i hne
        simp only [execOp, hop]
        generalize a.eval x = y at h1
        cases h1 with
        | @ifc _ _ vv hv =>
        have hnd : ∀ ms, d ≠ .interface ms := by
          intro ms he
          subst he
          cases hk : ti.k <;> rw [hk] at hd <;> simp only [KOK] at hd
          · cases hd
          · obtain ⟨_, he, _⟩ := hd; cases he
          · obtain ⟨_, _, _, he⟩ := hd; cases he
          · obtain ⟨_, he, _⟩ := hd; cases he
          · obtain ⟨_, he, _⟩ := hd; cases he
          · cases hd.1
          · exact absurd hk hne
          · cases hd
          · cases hd
        have hm : ∀ (A : Array (String × TypeId) → Sem Value) (B C : Sem Value), (match d, Value.iface u vv with
            | .interface _, .nilIface => B
            | .interface want, .iface _ _ => A want
            | _, .nilIface => C
            | _, .iface t' v' => if t' = t then pure (if ok then .tuple #[v', .bool true] else v') else B
            | _, _ => C) = (if u = t then pure (if ok then .tuple #[vv, .bool true] else vv) else B) := by
          intro A B C
          cases d <;> first | rfl | exact absurd rfl (hnd _)
        by_cases hut : u = t
        · simp only [hut, if_true]
          subst hut
          have hrun : (Instr.typeAssert (.iface u vv) xt u ok).run E.P w = .ok (if ok then .tuple #[vv, .bool true] else vv) w := by
            unfold Instr.typeAssert
            simp only [Sem.run_bind, hu, Result.andThen_ok]
            cases d <;> first | (simp only [if_true]; rfl) | exact absurd rfl (hnd _)
          refine .of_still hR ⟨_, hrun, ?_⟩
          cases ok
          · exact hv
          · exact .tup (.cons hv (.cons (.bool true) .nil))
        · simp only [hut, if_false]
          split
          · rename_i hok
            subst hok
            have hrun : (Instr.typeAssert (.iface u vv) xt t true).run E.P w = .ok (.tuple #[z, .bool false]) w := by
              unfold Instr.typeAssert
              simp only [Sem.run_bind, hu, Result.andThen_ok]
              cases d <;> first | (simp only [hut, if_false, if_true, Sem.run_bind, hz1, Result.andThen_ok]; rfl) | exact absurd rfl (hnd _)
            exact .of_still hR ⟨_, hrun, .tup (.cons (hz4 ρ) (.cons (.bool false) .nil))⟩
          · trivial
    · trivial
  · exact hpure

/-! ### conversions -/
theorem bytesL_run {P : Program} (w : World) (f : Value → ByteArray → Sem (ForInStep ByteArray)) (hf : ∀ n s, f (.int .u8 n) s = pure (.yield (s.push (UInt8.ofNat n.toNat)))) : ∀ (vs : List Value) (b r : ByteArray), bytesL vs b = some r →
    (forIn vs b f).run P w = .ok r w
  | [], b, r, h => by simp only [bytesL] at h; cases h; rfl
  | v :: vs, b, r, h => by
    simp only [bytesL] at h
    split at h
    · rename_i n
      simp only [List.forIn_cons, Sem.run_bind, hf, Sem.run_pure, Result.andThen_ok]
      exact bytesL_run w f hf vs _ r h
    · cases h

theorem modify_push (h : Array Obj) (o : Obj) (f : Obj → Obj) : (h.push o).modify h.size f = h.push (f o) := by
  apply Array.ext_getElem?
  intro j
  rw [Array.getElem?_modify, Array.getElem?_push, Array.getElem?_push]
  by_cases hj : h.size = j
  · subst hj
    simp
  · have : ¬ j = h.size := fun h => hj h.symm
    simp [hj, this]

theorem TIOK.size1 {P : Program} {t : TypeId} {ti : TI} (h : TIOK P t ti) (hf : isAggT P t = false) : ti.size = 1 := by
  obtain ⟨d, info, z, h1, h2, h3, h4, h5, h6, h7, h8⟩ := h.ex
  have hn : ¬ ∃ c, z = .agg c := fun hc => by rw [h7.1 hc] at hf; cases hf
  have hc : z.cells = #[z] := by
    cases z <;> first | rfl | exact absurd ⟨_, rfl⟩ hn
  rw [hc] at h6
  simpa using h6.symm

theorem opConvert_ok (hOK : EOK E) (hR : Rel E G ρ st w.heap) (hE : ER ρ T a.tmps) (ho : goodOp E.P.globals.size o = true) {src dst : TypeId} {x : Operand} (hop : o.op = .convert src dst x) (hx : goodX E.P.globals.size x = true) :
    OpR E G ρ st w ((execOp a.eval o).run E.P w) (opConvert E o T st src dst x) := by
  have hpure := aPure_ok hR hE ho
  have h1 := VR.evalO hE (fun i hi => hR.glob i hi) hx
  unfold opConvert
  split
  · rename_i b hp
    rw [hp] at h1
    split
    · rename_i ti ts hti hts
      obtain ⟨d, hd, hu⟩ := (hOK.ty _ _ hti).run_underlying
      obtain ⟨ds, hds, hus⟩ := (hOK.ty _ _ hts).run_underlying
      split
      · rename_i el es by_ hk
        rw [hk] at hd
        obtain ⟨rfl, _, _, hkn⟩ := hd
        split
        · rename_i te hte
          split
          · rename_i htk
            have hel := hOK.ty _ _ hte
            obtain ⟨de, hde, hue⟩ := hel.run_underlying
            rw [htk] at hde
            have hde' : de = .int .u8 := hde
            subst hde'
            simp only [execOp, hop]
            generalize a.eval x = y at h1
            cases h1
            have hval : ∀ l : List UInt8, VRs ρ (l.map fun x => AV.val (.int .u8 x.toNat)) (l.map fun x => Value.int .u8 x.toNat) := by
              intro l
              induction l with
              | nil => exact .nil
              | cons x l ih => exact .cons (.val _) ih
            have hsz1 : te.size = 1 := hel.size1 (by rw [hel.agg, htk])
            let nc := (Question.appendCap b.size 0 el).cut (w.tape w.drawn (.appendCap b.size 0 el))
            have hnc : b.size ≤ nc := Nat.le_add_right _ _
            have hch : (choose (.appendCap b.size 0 el)).run E.P w = .ok nc { w with drawn := w.drawn + 1 } := by
              rw [run_choose]; rfl
            let vs := b.data.toList.map fun x => Value.int .u8 x.toNat
            let rest := List.replicate (nc - b.size) (Value.int .u8 0)
            let ob : Obj := .cells ⟨vs ++ rest⟩ el ((vs ++ rest).length, (vs ++ rest).length + 1)
            let w' : World := { w with drawn := w.drawn + 1, heap := w.heap.push ob }
            have hlist : ((b.data.map fun x => (Value.int .u8 x.toNat)) ++ Array.replicate (nc - b.size) (Value.int .u8 0) : Array Value) = ⟨vs ++ rest⟩ := by
              apply Array.ext'
              simp [vs, rest]
            refine .of_value ⟨.slice (some ⟨w.heap.size, 0, none⟩) b.size nc, w', addρ ρ st.n w.heap.size (nc - b.size), ?_, .slExt (addρ_self _ _ _ _) (by omega : nc = b.size + (nc - b.size)), ?_⟩
            · simp only [convert, Sem.run_bind, hus, Result.andThen_ok, hu, hue, Conv.stringToBytes, hch, newRow, run_newObj, Sem.run_pure]
              rw [hlist]
              simp only [markStringish, Sem.run_bind, run_shape, Result.andThen_ok, World.shape?]
              have hg : (w.heap.push (.cells ⟨vs ++ rest⟩ el))[w.heap.size]? = some (.cells ⟨vs ++ rest⟩ el) := by simp
              simp only [hg, run_freeze, Result.andThen_ok, World.freeze]
              rw [if_neg (by decide)]
              have e1 : (⟨vs ++ rest⟩ : Array Value).size = (vs ++ rest).length := rfl
              simp only [e1]
              rw [modify_push]
              rfl
            · exact Mv.new hR (w' := w') (b := ob) rfl ⟨rfl, rfl, rfl⟩ (.cells vs rest _ (hval _) (by
                intro off hoff h
                have := h.1
                simp at this hoff
                omega) (fun h => by cases h) (fun ti' hti' => by
                  rw [hte] at hti'; cases hti'
                  rw [hsz1]; simp [rest]))
          · trivial
        · trivial
      · exact hpure
    · trivial
  · rename_i i off len cp xx hp
    rw [hp] at h1
    split
    · rename_i td ts htd hts
      obtain ⟨d, hd, hu⟩ := (hOK.ty _ _ htd).run_underlying
      obtain ⟨ds, hds, hus⟩ := (hOK.ty _ _ hts).run_underlying
      split
      · rename_i el es by_ hk hk'
        rw [hk] at hd
        rw [hk'] at hds
        have hd' : d = .string := hd
        subst hd'
        obtain ⟨rfl, _, _, hkn⟩ := hds
        split
        · rename_i te cs hte hcs
          split
          · rename_i vs htk hvs
            split
            · rename_i b hb
              obtain ⟨de, hde, hue⟩ := (hOK.ty _ _ hte).run_underlying
              rw [htk] at hde
              have hde' : de = .int .u8 := hde
              subst hde'
              simp only [execOp, hop]
              generalize a.eval x = y at h1
              cases h1 with
              | sl hi =>
              obtain ⟨us, hu1, hu2, hu3⟩ := loadCells_ok hR hi hcs
              have := hu2.toVals hvs
              subst this
              refine .of_still hR ⟨.string b, ?_, .val _⟩
              simp only [convert, Sem.run_bind, hus, Result.andThen_ok, hu, hue, Conv.bytesToString, hu1]
              rw [← Array.forIn_toList]
              rw [bytesL_run w _ (fun _ _ => rfl) us .empty b hb]
              rfl
            · trivial
          · trivial
        · trivial
      · trivial
    · trivial
  · exact hpure
end
end Ev
end

section
namespace Ev
open Go

section
variable {E : Env} {G : Good} {ρ : Rho} {st : St} {w : World} {T : Tr AV} {a : Act} {o : Oper}

theorem callFunc_run (hOK : EOK E) {f : FuncId} {fn : Func} {c : Code} (hf : E.fn f = some fn) (hb : fn.body = some c) (args : Array Value) (w : World) : (callFunc f args).run E.P w = .ok (.enter f args) w := by
  have h1 := hOK.fn _ _ hf
  have h2 := hOK.name _ _ hf
  simp only [callFunc, Sem.run_bind, run_program, Result.andThen_ok, h1, h2, Bool.false_eq_true, if_false, hb, Option.isNone_some]
  rfl

/-- a call of a function value -/
theorem callV_ok (hOK : EOK E) (hR : Rel E G ρ st w.heap) {r : Result Next} {fv : AV} {f : Value} {args : List AV} {xs : List Value} (hf : VR ρ fv f) (ha : VRs ρ args xs)
    (hr : r = (do let d ← Deferred.ofValue f ⟨xs⟩; invoke d.target d.args : Sem Next).run E.P w) (hpure : OpR E G ρ st w r (aPure E o T st)) : OpR E G ρ st w r (callV E o fv args st T) := by
  have plain : ∀ (g : FuncId) (first cap : List Value) (as : List AV), f = .func (.func g) ⟨first⟩ ⟨cap⟩ → VRs ρ as (first ++ xs ++ cap) → OpR E G ρ st w r (callF E o g as st T) := by
    intro g first cap as he hv
    subst he
    unfold callF
    split
    · rename_i fn hfn
      split
      · rename_i c hb
        refine ⟨rfl, first ++ xs ++ cap, ?_, hv⟩
        rw [hr]
        simp only [Deferred.ofValue, Sem.run_bind, Sem.run_pure, Result.andThen_ok, invoke]
        have : (⟨first⟩ ++ ⟨xs⟩ ++ ⟨cap⟩ : Array Value) = ⟨first ++ xs ++ cap⟩ := by apply Array.ext'; simp
        rw [this]
        exact callFunc_run hOK hfn hb _ w
      · exact hpure
    · trivial
  unfold callV
  split
  · rename_i g
    cases hf
    exact plain g [] [] args rfl (by simpa using ha)
  · cases hf with
    | fn h1 h2 =>
    exact plain _ _ _ _ rfl ((h1.append ha).append h2)
  · cases hf with
    | @yld _ b e h =>
    refine ⟨b, e, xs, h, ha, ?_⟩
    rw [hr]
    simp only [Deferred.ofValue, Sem.run_bind, Sem.run_pure, Result.andThen_ok, invoke]
    have : (#[] ++ ⟨xs⟩ : Array Value) = ⟨xs⟩ := by apply Array.ext'; simp
    rw [this]
  · trivial

theorem aPure_enter {f : FuncId} {as : List AV} {s' : St} : aPure E o T st ≠ .enter f as s' := by
  unfold aPure
  split
  · split <;> simp
  · simp

theorem callV_enter (hOK : EOK E) {fv : AV} {f : Value} {args : List AV} {xs : List Value} (hf : VR ρ fv f) (ha : VRs ρ args xs) {f' : FuncId} {as : List AV} {s' : St} (h : callV E o fv args st T = .enter f' as s') (w : World) :
    s' = st ∧ ∃ ys, (do let d ← Deferred.ofValue f ⟨xs⟩; invoke d.target d.args : Sem Next).run E.P w = .ok (.enter f' ⟨ys⟩) w ∧ VRs ρ as ys := by
  have plain : ∀ (g : FuncId) (first cap : List Value) (as' : List AV), f = .func (.func g) ⟨first⟩ ⟨cap⟩ → VRs ρ as' (first ++ xs ++ cap) → callF E o g as' st T = .enter f' as s' →
      s' = st ∧ ∃ ys, (do let d ← Deferred.ofValue f ⟨xs⟩; invoke d.target d.args : Sem Next).run E.P w = .ok (.enter f' ⟨ys⟩) w ∧ VRs ρ as ys := by
    intro g first cap as' he hv hc
    subst he
    unfold callF at hc
    split at hc
    · rename_i fn hfn
      split at hc
      · rename_i c hb
        cases hc
        refine ⟨rfl, first ++ xs ++ cap, ?_, hv⟩
        simp only [Deferred.ofValue, Sem.run_bind, Sem.run_pure, Result.andThen_ok, invoke]
        have : (⟨first⟩ ++ ⟨xs⟩ ++ ⟨cap⟩ : Array Value) = ⟨first ++ xs ++ cap⟩ := by apply Array.ext'; simp
        rw [this]
        exact callFunc_run hOK hfn hb _ w
      · exact absurd hc aPure_enter
    · cases hc
  unfold callV at h
  split at h
  · rename_i g
    cases hf
    exact plain g [] [] args rfl (by simpa using ha) h
  · cases hf with
    | fn h1 h2 => exact plain _ _ _ _ rfl ((h1.append ha).append h2) h
  · cases h
  · cases h

theorem opDefer_ok (hR : Rel E G ρ st w.heap) (hE : ER ρ T a.tmps) {c : Call} {ty : TypeId} (hg : ∀ x ∈ c.operands, goodX E.P.globals.size x = true) :
    OpR E G ρ st w ((do pure (.defer (← resolve a.eval c ty)) : Sem Next).run E.P w) (opDefer E o T st c) := by
  unfold opDefer
  split
  · rename_i f hc
    have hf : goodX E.P.globals.size f = true := hg f (by simp [Call.operands, hc])
    have hargs := VRs.evalL hR hE (xs := c.args.toList) (fun x hx => hg x (by simp [Call.operands]; exact .inr (by simpa using hx)))
    have h1 := VR.evalO hE (fun i hi => hR.glob i hi) hf
    have mk : ∀ fn first cap, a.eval f = .func fn first cap → (resolve a.eval c ty).run E.P w = .ok { target := .fn fn cap, args := first ++ c.args.map a.eval } w := by
      intro fn first cap he
      simp [resolve, hc, he, Deferred.ofValue]
    have hm : (c.args.map a.eval) = ⟨c.args.toList.map a.eval⟩ := by apply Array.ext'; simp
    split
    · rename_i g fa ca hp
      rw [hp] at h1
      generalize hz : a.eval f = z at h1
      cases h1 with
      | @fn _ _ _ vs ws h2 h3 =>
      have := mk _ _ _ hz
      exact ⟨_, by simp [this]; rfl, ⟨_, _, _, _, .fn h2 h3, hargs, by rw [hm]⟩⟩
    · rename_i g fa ca hp
      rw [hp] at h1
      generalize hz : a.eval f = z at h1
      cases h1
      have := mk _ _ _ hz
      exact ⟨_, by simp [this]; rfl, ⟨_, _, _, _, .val _, hargs, by rw [hm]⟩⟩
    · trivial
  · trivial

theorem lenK_ok (hR : Rel E G ρ st w.heap) {d : TypeDesc} {t : TypeId} {k : TK} (hd : KOK E.P d k) (hu : ∀ w, (underlying t).run E.P w = .ok d w) {x : AV} {y : Value} (hx : VR ρ x y) {n : Nat} (h : lenK k x st = some n) (ty : TypeId) :
    (Builtin.len_ #[t] ty #[y]).run E.P w = .ok (.int .i64 n) w := by
  unfold lenK at h
  split at h
  · obtain ⟨rfl, _⟩ := hd
    split at h
    · cases h; cases hx with | sl hi => simp [Builtin.len_, hu, goInt]
    · cases h; cases hx; simp [Builtin.len_, hu, goInt]
    · cases h
  · have hd' : d = .map _ _ := hd
    subst hd'
    split at h
    · split at h
      · rename_i es c hg
        cases h
        cases hx with | mp hi =>
        obtain ⟨ob, h1, h2⟩ := hR.obj _ _ _ _ hg hi
        cases h2 with
        | map l hm =>
        have hlen : es.length = l.length := by
          clear h1 hg
          induction es generalizing l with
          | nil => cases l with | nil => rfl | cons _ _ => exact hm.elim
          | cons e es ih => cases l with | nil => exact hm.elim | cons m ms => simp [ih ms hm.2]
        simp [Builtin.len_, hu, getObj, Sem.run, h1, goInt, hlen]
      · cases h
    · cases h
  · cases h

theorem run_getObj {P : Program} {r : Nat} {ob : Obj} {w : World} (h : w.heap[r]? = some ob) (hc : ∀ c e f, ob ≠ .cells c e f) : (getObj r).run P w = .ok ob w := by
  unfold getObj
  simp only [Sem.run, h]

theorem opCall_ok (hOK : EOK E) (hR : Rel E G ρ st w.heap) (hE : ER ρ T a.tmps) (ho : goodOp E.P.globals.size o = true) {c : Call} (hop : o.op = .call c) :
    OpR E G ρ st w ((execOp a.eval o).run E.P w) (opCall E o T st c) := by
  have hpure := aPure_ok hR hE ho
  have hg : ∀ x ∈ c.operands, goodX E.P.globals.size x = true := fun x hx => goodOp_mem ho (by rw [hop]; exact hx)
  have hargs : ∀ x ∈ c.args.toList, goodX E.P.globals.size x = true := fun x hx => hg x (by simp [Call.operands]; exact .inr (by simpa using hx))
  have hm : (c.args.map a.eval) = ⟨c.args.toList.map a.eval⟩ := by apply Array.ext'; simp
  have hev : ∀ x, x ∈ c.args.toList → VR ρ (evalO T x) (a.eval x) := fun x hx => VR.evalO hE (fun i hi => hR.glob i hi) (hargs x hx)
  unfold opCall
  split
  · rename_i b hb
    have hexec : ∀ (q : Builtin), b = q → (execOp a.eval o).run E.P w = (builtin q c.argTypes o.type (c.args.map fun | .const _ => true | _ => false) ⟨c.args.toList.map a.eval⟩).run E.P w := by
      intro q hq
      subst hq
      simp only [execOp, hop, resolve, hb, Sem.run_bind, Sem.run_pure, Result.andThen_ok, invoke, hm]
      rfl
    split
    · -- len
      rename_i x t hxs hts
      split
      · rename_i n hn
        rw [hexec _ rfl]
        have hta : c.argTypes = #[t] := by apply Array.ext'; simpa using hts
        unfold lenA at hn
        split at hn
        · rename_i ti hti
          obtain ⟨d, hd, hu⟩ := (hOK.ty _ _ hti).run_underlying
          have := lenK_ok (w := w) hR hd hu (hev x (by simp [hxs])) hn o.type
          exact ⟨_, w, ρ, by simp [builtin, hxs, hta, this], .num _, Mv.refl hR⟩
        · cases hn
      · exact hpure
    · -- cap
      rename_i x t hxs hts
      have h1 := hev x (by simp [hxs])
      split
      · rename_i i off l cp ex hp
        rw [hp] at h1
        split
        · split
          · rename_i ti hti
            obtain ⟨d, hd, hu⟩ := (hOK.ty _ _ hti).run_underlying
            split
            · rename_i el es by_ hk
              rw [hk] at hd
              obtain ⟨rfl, _⟩ := hd
              have hta : c.argTypes = #[t] := by apply Array.ext'; simpa using hts
              rw [hexec _ rfl]
              generalize hz : a.eval x = z at h1
              cases h1 with
              | sl hi =>
              exact ⟨_, w, ρ, by simp [builtin, hxs, hta, hz, Builtin.cap_, hu, goInt], .num _, Mv.refl hR⟩
            · trivial
          · trivial
        · trivial
      · exact hpure
    · -- append
      rename_i x y t u hxs hts
      have h1 := hev x (by simp [hxs])
      have h2 := hev y (by simp [hxs])
      have hta : c.argTypes = #[t, u] := by apply Array.ext'; simpa using hts
      have hbi := hexec _ rfl
      simp only [hxs, List.map_cons, List.map_nil, hta] at hbi
      have hr : (execOp a.eval o).run E.P w = ((Builtin.append_ #[t, u] o.type #[a.eval x, a.eval y]).run E.P w).andThen fun v w' => .ok (.value v) w' := by
        rw [hbi]; simp [builtin]
      rw [hr]
      split
      · rename_i tu htu
        split
        · rename_i q hq
          split
          · rename_i i hi
            obtain ⟨k, hk⟩ := intOf_ok h2 hi
            split
            · rename_i h0
              split
              · rename_i v s' hv
                obtain ⟨z, w', ρ', r1, r2, r3⟩ := aAppendZ_ok (ty := o.type) (k := k) hOK hR htu hq h0 h1 hv
                exact ⟨z, w', ρ', by rw [hk, r1]; rfl, r2, r3⟩
              · trivial
            · trivial
          · trivial
        · rename_i hns
          split
          · rename_i v s' hv
            obtain ⟨z, w', ρ', r1, r2, r3⟩ := aAppend_ok (ty := o.type) hOK hR htu (fun k hk => hns k hk) h1 h2 hv
            exact ⟨z, w', ρ', by rw [r1]; rfl, r2, r3⟩
          · trivial
      · trivial
    · -- copy
      rename_i x y t ts hxs hts
      have h1 := hev x (by simp [hxs])
      have h2 := hev y (by simp [hxs])
      have hta : c.argTypes = ⟨t :: ts⟩ := by apply Array.ext'; simpa using hts
      have hbi := hexec _ rfl
      simp only [hxs, List.map_cons, List.map_nil, hta] at hbi
      have hr : (execOp a.eval o).run E.P w = ((Builtin.copy_ ⟨t :: ts⟩ o.type #[a.eval x, a.eval y]).run E.P w).andThen fun v w' => .ok (.value v) w' := by
        rw [hbi]; simp [builtin]
      rw [hr]
      split
      · rename_i n s' hn
        obtain ⟨w', r1, r2⟩ := aCopy_ok (ty := o.type) hOK hR h1 h2 hn
        exact ⟨_, w', ρ, by rw [r1]; rfl, .num _, r2⟩
      · trivial
    · -- min
      rename_i x y hxs
      have h1 := hev x (by simp [hxs])
      have h2 := hev y (by simp [hxs])
      split
      · rename_i m hmm
        split
        · rename_i n hnn
          rw [hmm] at h1; rw [hnn] at h2
          rw [hexec _ rfl]
          generalize hz : a.eval x = z at h1
          generalize hz' : a.eval y = z' at h2
          cases h1; cases h2
          refine ⟨_, w, ρ, ?_, .num _, Mv.refl hR⟩
          simp [builtin, hxs, hz, hz', Builtin.min_, Builtin.min2, bltI_eq]
        · exact hpure
      · exact hpure
    · -- max
      rename_i x y hxs
      have h1 := hev x (by simp [hxs])
      have h2 := hev y (by simp [hxs])
      split
      · rename_i m hmm
        split
        · rename_i n hnn
          rw [hmm] at h1; rw [hnn] at h2
          rw [hexec _ rfl]
          generalize hz : a.eval x = z at h1
          generalize hz' : a.eval y = z' at h2
          cases h1; cases h2
          refine ⟨_, w, ρ, ?_, .num _, Mv.refl hR⟩
          simp [builtin, hxs, hz, hz', Builtin.max_, Builtin.max2, bltI_eq]
        · exact hpure
      · exact hpure
    · -- recover
      rw [hexec _ rfl]
      rfl
    · -- panic
      rename_i x hxs
      have h1 := hev x (by simp [hxs])
      split
      · rename_i t v hp
        rw [hp] at h1
        rw [hexec _ rfl]
        generalize hz : a.eval x = z at h1
        cases h1 with
        | ifc hv =>
        exact ⟨rfl, _, by simp [builtin, hxs, hz, Instr.panic], .ifc hv⟩
      · trivial
    · exact hpure
  · rename_i f hc
    have hf : goodX E.P.globals.size f = true := hg f (by simp [Call.operands, hc])
    refine callV_ok hOK hR (VR.evalO hE (fun i hi => hR.glob i hi) hf) (VRs.evalL hR hE hargs) ?_ hpure
    simp only [execOp, hop, resolve, hc, hm]
  · trivial
end
end Ev
end
