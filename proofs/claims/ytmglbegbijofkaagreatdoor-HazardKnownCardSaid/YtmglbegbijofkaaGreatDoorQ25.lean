import Derived.Maps.OwnSet
import Derived.Test.YtmglbegbijofkaaGreatDoorQS0
set_option linter.unusedVariables false
set_option linter.unusedSimpArgs false
/- Plain: a map of notices by their numbers, and the list of them by their numbers. -/
namespace Go.Proofs.YtmglbegbijofkaaGreatDoor
open Go.Maps
/-- a notice as a map's element reads -/
def ntD {H : Type} (x : NT) : DataW H := .agg [.lit (.int .i64 x.n), .lit (.bool x.c), .lit (.int .i64 x.f), .lit (.int .i64 x.u), .lit (.int .i64 x.xl), .lit (.int .i64 x.xh), .lit (.int .i64 x.yl), .lit (.int .i64 x.yh)]
theorem ntD_inj {H : Type} {x y : NT} (h : ntD (H := H) x = ntD y) : x = y := by
  obtain ⟨a0, a1, a2, a3, a4, a5, a6, a7⟩ := x
  obtain ⟨b0, b1, b2, b3, b4, b5, b6, b7⟩ := y
  simp [ntD] at h
  obtain ⟨rfl, rfl, rfl, rfl, rfl, rfl, rfl, rfl⟩ := h
  rfl
abbrev kI (k : Int) : Lit := .int .i64 k
theorem kI_ne {a b : Int} (h : a ≠ b) : kI a ≠ kI b := fun e => h (by cases e; rfl)
theorem kI_key (k : Int) : WideAt.IsKeyLit (kI k) := by simp [WideAt.IsKeyLit]
structure NtRel (D : DataW Unit) (L : List NT) : Prop where
  im : IsMap D
  hs : ∀ k : Int, Maps.has D (kI k) = L.any fun x => x.n == k
  at_ : ∀ x ∈ L, ∀ zd, D.atKey (kI x.n) zd = ntD x
  asc : L.Pairwise fun x y => x.n < y.n
theorem NtRel.empty : NtRel (.map []) [] := ⟨isMap_empty, fun k => rfl, fun x hx => (by cases hx), List.Pairwise.nil⟩
def dropN (n : Int) (L : List NT) : List NT := L.filter fun x => x.n != n
def putN (x : NT) (L : List NT) : List NT := L.filter (fun y => decide (y.n < x.n)) ++ x :: L.filter (fun y => decide (x.n < y.n))
theorem mem_putN {x y : NT} {L : List NT} : y ∈ putN x L ↔ y = x ∨ (y ∈ L ∧ y.n ≠ x.n) := by
  unfold putN
  simp only [List.mem_append, List.mem_filter, List.mem_cons, decide_eq_true_eq]
  constructor
  · rintro (⟨h1, h2⟩ | rfl | ⟨h1, h2⟩)
    · exact .inr ⟨h1, by omega⟩
    · exact .inl rfl
    · exact .inr ⟨h1, by omega⟩
  · rintro (rfl | ⟨h1, h2⟩)
    · exact .inr (.inl rfl)
    · by_cases h : y.n < x.n
      · exact .inl ⟨h1, h⟩
      · exact .inr (.inr ⟨h1, by omega⟩)
theorem putN_asc {x : NT} {L : List NT} (h : L.Pairwise fun x y => x.n < y.n) : (putN x L).Pairwise fun x y => x.n < y.n := by
  unfold putN
  rw [List.pairwise_append]
  refine ⟨h.filter _, ?_, ?_⟩
  · rw [List.pairwise_cons]
    exact ⟨fun y hy => by simpa using (List.mem_filter.1 hy).2, h.filter _⟩
  · intro a ha b hb
    have h1 : a.n < x.n := by simpa using (List.mem_filter.1 ha).2
    rcases List.mem_cons.1 hb with rfl | hb
    · exact h1
    · have h2 : x.n < b.n := by simpa using (List.mem_filter.1 hb).2
      omega
theorem any_iff {L : List NT} {k : Int} : (L.any fun x => x.n == k) = true ↔ ∃ x ∈ L, x.n = k := by simp
theorem NtRel.put {D : DataW Unit} {L : List NT} (h : NtRel D L) (x : NT) : NtRel (D.put (kI x.n) (ntD x)) (putN x L) := by
  refine ⟨h.im.put _ _, fun k => ?_, fun y hy zd => ?_, putN_asc h.asc⟩
  · rw [Bool.eq_iff_iff, any_iff]
    by_cases e : k = x.n
    · subst e
      rw [has_put_same h.im (kI_key _)]
      simp only [true_iff]
      exact ⟨x, mem_putN.2 (.inl rfl), rfl⟩
    · rw [has_put_other (kI_ne e), h.hs, any_iff]
      constructor
      · rintro ⟨y, h1, h2⟩
        exact ⟨y, mem_putN.2 (.inr ⟨h1, by omega⟩), h2⟩
      · rintro ⟨y, h1, h2⟩
        rcases mem_putN.1 h1 with rfl | ⟨h3, _⟩
        · omega
        · exact ⟨y, h3, h2⟩
  · rcases mem_putN.1 hy with rfl | ⟨h3, h4⟩
    · exact atKey_put_same h.im (kI_key _) _ _
    · rw [atKey_put_other (kI_ne h4)]
      exact h.at_ y h3 zd
theorem NtRel.del {D : DataW Unit} {L : List NT} (h : NtRel D L) (n : Int) : NtRel (D.del (kI n)) (dropN n L) := by
  have hm : ∀ y, y ∈ dropN n L ↔ y ∈ L ∧ y.n ≠ n := fun y => by unfold dropN; simp [List.mem_filter]
  refine ⟨h.im.del _, fun k => ?_, fun y hy zd => ?_, h.asc.filter _⟩
  · rw [Bool.eq_iff_iff, any_iff]
    by_cases e : k = n
    · subst e
      rw [has_del_same]
      constructor
      · intro h; cases h
      · rintro ⟨y, h1, h2⟩
        exact absurd h2 ((hm y).1 h1).2
    · rw [has_del_other (kI_ne e), h.hs, any_iff]
      constructor
      · rintro ⟨y, h1, h2⟩
        exact ⟨y, (hm y).2 ⟨h1, by omega⟩, h2⟩
      · rintro ⟨y, h1, h2⟩
        exact ⟨y, ((hm y).1 h1).1, h2⟩
  · obtain ⟨h1, h2⟩ := (hm y).1 hy
    rw [atKey_del_other (kI_ne h2)]
    exact h.at_ y h1 zd
/-- the pair's second is what the map has at its first -/
def ValAtN {H : Type} (D0 : DataW H) (p : Int × NT) : Prop := ∀ zd, D0.atKey (.int .i64 p.1) zd = ntD p.2
def AllOfN {H : Type} (D0 : DataW H) (ps : List (Int × NT)) : Prop := (ps.map (·.1)).Nodup ∧ (∀ x, x ∈ ps.map (·.1) ↔ Maps.has D0 (.int .i64 x) = true) ∧ ∀ p ∈ ps, ValAtN D0 p
def PartOfN {H : Type} (D0 : DataW H) (ps : List (Int × NT)) : Prop := (ps.map (·.1)).Nodup ∧ (∀ x ∈ ps.map (·.1), Maps.has D0 (.int .i64 x) = true) ∧ ∀ p ∈ ps, ValAtN D0 p
theorem NtRel.all {D : DataW Unit} {L : List NT} (h : NtRel D L) {ps : List (Int × NT)} (ha : AllOfN D ps) : (ps.map (·.2)).Perm L := by
  obtain ⟨a1, a2, a3⟩ := ha
  have key : ∀ p ∈ ps, p.2 ∈ L ∧ p.2.n = p.1 := fun p hp => by
    have h1 : Maps.has D (kI p.1) = true := (a2 p.1).1 (List.mem_map_of_mem hp)
    rw [h.hs, any_iff] at h1
    obtain ⟨y, hy, e⟩ := h1
    have h2 := h.at_ y hy (.lit (.int .i64 0))
    rw [e] at h2
    have h3 := a3 p hp (.lit (.int .i64 0))
    have h4 : p.2 = y := ntD_inj (h3.symm.trans h2)
    rw [h4]; exact ⟨hy, e⟩
  have hn : (ps.map (·.2)).map NT.n = ps.map (·.1) := by
    rw [List.map_map]
    exact List.map_congr_left fun p hp => (key p hp).2
  have nd1 : (ps.map (·.2)).Nodup := by
    have h1 : ((ps.map (·.2)).map NT.n).Pairwise (· ≠ ·) := by rw [hn]; exact a1
    exact (List.pairwise_map.1 h1).imp (fun h e => h (by rw [e]))
  have nd2 : L.Nodup := h.asc.imp (fun h e => by rw [e] at h; omega)
  refine (List.perm_ext_iff_of_nodup nd1 nd2).2 fun x => ?_
  constructor
  · intro hx
    obtain ⟨p, hp, rfl⟩ := List.mem_map.1 hx
    exact (key p hp).1
  · intro hx
    have h1 : Maps.has D (kI x.n) = true := by rw [h.hs, any_iff]; exact ⟨x, hx, rfl⟩
    obtain ⟨p, hp, e⟩ := List.mem_map.1 ((a2 x.n).2 h1)
    refine List.mem_map.2 ⟨p, hp, ?_⟩
    have h3 := a3 p hp (.lit (.int .i64 0))
    rw [e] at h3
    exact ntD_inj (h3.symm.trans (h.at_ x hx _))
/-- what is chosen, sorted, is the list itself -/
theorem sorted_same {L ys : List NT} (h : L.Pairwise fun x y => x.n < y.n) (hp : ys.Perm L) (hs : ys.Pairwise fun x y => x.n ≤ y.n) : ys = L := by
  refine List.Perm.eq_of_pairwise (le := fun x y : NT => x.n ≤ y.n) (fun a b ha hb h1 h2 => ?_) hs (h.imp (fun h => by omega)) hp
  have he : a.n = b.n := by omega
  have ha : a ∈ L := hp.mem_iff.1 ha
  clear hs hp
  induction L with
  | nil => cases ha
  | cons c L ih =>
    obtain ⟨h3, h4⟩ := List.pairwise_cons.1 h
    rcases List.mem_cons.1 ha with rfl | ha'
    · rcases List.mem_cons.1 hb with rfl | hb'
      · rfl
      · have := h3 b hb'; omega
    · rcases List.mem_cons.1 hb with rfl | hb'
      · have := h3 a ha'; omega
      · exact ih h4 hb' ha'
/-- what force makes of the strings, from a list on: the error, the notices -/
def forceR : List (List UInt8) → List NT → Int × List NT
  | [], L => (0, L)
  | s :: t, L => if parseE s ≠ 0 then (parseE s, []) else if (parseN s).c = true then (if (L.any fun x => x.n == (parseN s).n) then forceR t (dropN (parseN s).n L) else (4, [])) else forceR t (putN (parseN s) L)
def forceE (ss : List (List UInt8)) : Int := if 60 < ss.length then 3 else (forceR ss []).1
def forceL (ss : List (List UInt8)) : List NT := if 60 < ss.length then [] else (forceR ss []).2
theorem forceR_cons (s : List UInt8) (t : List (List UInt8)) (L : List NT) : forceR (s :: t) L = if parseE s ≠ 0 then (parseE s, []) else if (parseN s).c = true then (if (L.any fun x => x.n == (parseN s).n) then forceR t (dropN (parseN s).n L) else (4, [])) else forceR t (putN (parseN s) L) := rfl
end Go.Proofs.YtmglbegbijofkaaGreatDoor
/- Plain: ref.force and ref.put: a list with a notice, by the numbers. -/
namespace Go.Proofs.YtmglbegbijofkaaGreatDoor
/-- a notice is in force at a tick -/
def tickB (t : Int) (x : NT) : Bool := decide (x.f ≤ t) && decide (t ≤ x.u)
def fcE (ss : List (List UInt8)) (t : Int) : Int := if forceE ss ≠ 0 then forceE ss else if outB t 0 100000 then 7 else 0
def fcL (ss : List (List UInt8)) (t : Int) : List NT := if fcE ss t = 0 then (forceL ss).filter (tickB t) else []
end Go.Proofs.YtmglbegbijofkaaGreatDoor
