import Derived.Sort.LotA
import Derived.Test.YtmglbegbijofkaaGreatDoorPA
set_option linter.unusedVariables false
set_option linter.unusedSimpArgs false
/- Plain: the merge in place (SymMerge), with its exchanges of ranges, its rotations and its binary searches; no program in sight. -/
namespace Go.Proofs.YtmglbegbijofkaaGreatDoor
open Go.Sort
variable {α : Type} [Inhabited α]

/-- the ranges from a and from b, n long, exchanged -/
def SwR (d : Array α) (a b n : Nat) (d' : Array α) : Prop :=
  d'.size = d.size ∧ ∀ x, d'[x]! = if a ≤ x ∧ x < a + n then d[x - a + b]! else if b ≤ x ∧ x < b + n then d[x - b + a]! else d[x]!
theorem SwR.zero (d : Array α) (a b : Nat) : SwR d a b 0 d := ⟨rfl, fun x => by rw [if_neg (by omega), if_neg (by omega)]⟩
theorem SwR.step {d dk : Array α} {a b n : Nat} (h : SwR d a b n dk) (h1 : a + n < b) (h2 : b + n < d.size) : SwR d a b (n + 1) (swp dk (a + n) (b + n)) := by
  obtain ⟨hs, hx⟩ := h
  refine ⟨by rw [swp_size]; exact hs, fun x => ?_⟩
  rw [swp_get dk (by omega) (by omega)]
  by_cases e1 : x = b + n
  · subst e1
    rw [if_pos rfl, if_neg (by omega), if_pos (by omega), hx, if_neg (by omega), if_neg (by omega)]
    congr 1; omega
  · rw [if_neg e1]
    by_cases e2 : x = a + n
    · subst e2
      rw [if_pos rfl, if_pos (by omega), hx, if_neg (by omega), if_neg (by omega)]
      congr 1; omega
    · rw [if_neg e2, hx]
      by_cases c1 : a ≤ x ∧ x < a + n
      · rw [if_pos c1, if_pos (by omega)]
      · rw [if_neg c1]
        by_cases c2 : b ≤ x ∧ x < b + n
        · rw [if_pos c2, if_neg (by omega), if_pos (by omega)]
        · rw [if_neg c2, if_neg (by omega), if_neg (by omega)]
/-- T is what dk becomes when the windows of i places before m and of j places from m on change places -/
structure Rot (T dk : Array α) (m i j : Nat) : Prop where
  im : i ≤ m
  size : dk.size = T.size
  top : m + j ≤ T.size
  low : ∀ x, x < m - i → T[x]! = dk[x]!
  high : ∀ x, m + j ≤ x → T[x]! = dk[x]!
  left : ∀ x, m - i ≤ x → x < m - i + j → T[x]! = dk[x + i]!
  right : ∀ x, m - i + j ≤ x → x < m + j → T[x]! = dk[x - j]!
theorem Rot.more {T dk dk' : Array α} {m i j : Nat} (h : Rot T dk m i j) (hij : j < i) (hs : SwR dk (m - i) m j dk') : Rot T dk' m (i - j) j := by
  obtain ⟨h0, h1, h2, h3, h4, h5, h6⟩ := h
  obtain ⟨s0, s1⟩ := hs
  refine ⟨by omega, by omega, h2, fun x hx => ?_, fun x hx => ?_, fun x hx hx2 => ?_, fun x hx hx2 => ?_⟩
  · rw [s1]
    by_cases c : m - i ≤ x
    · rw [if_pos (by omega), h5 x c (by omega)]; congr 1; omega
    · rw [if_neg (by omega), if_neg (by omega), h3 x (by omega)]
  · rw [s1, if_neg (by omega), if_neg (by omega), h4 x hx]
  · by_cases c : x < m - i + j
    · omega
    · rw [h6 x (by omega) (by omega), s1, if_neg (by omega), if_pos (by omega)]; congr 1; omega
  · rw [h6 x (by omega) (by omega), s1]
    rw [if_neg (by omega), if_neg (by omega)]
theorem Rot.less {T dk dk' : Array α} {m i j : Nat} (h : Rot T dk m i j) (hij : i < j) (hs : SwR dk (m - i) (m + j - i) i dk') : Rot T dk' m i (j - i) := by
  obtain ⟨h0, h1, h2, h3, h4, h5, h6⟩ := h
  obtain ⟨s0, s1⟩ := hs
  refine ⟨by omega, by omega, by omega, fun x hx => ?_, fun x hx => ?_, fun x hx hx2 => ?_, fun x hx hx2 => ?_⟩
  · rw [s1, if_neg (by omega), if_neg (by omega), h3 x hx]
  · rw [s1]
    by_cases c : x < m + j
    · rw [if_neg (by omega), if_pos (by omega), h6 x (by omega) c]; congr 1; omega
    · rw [if_neg (by omega), if_neg (by omega), h4 x (by omega)]
  · rw [s1, if_neg (by omega), if_neg (by omega), h5 x (by omega) (by omega)]
  · by_cases c : x < m - i + j
    · rw [h5 x (by omega) c, s1]
      rw [if_pos (by omega)]; congr 1; omega
    · omega
theorem Rot.last {T dk dk' : Array α} {m i : Nat} (h : Rot T dk m i i) (hs : SwR dk (m - i) m i dk') : ∀ x : Nat, dk'[x]! = T[x]! := by
  obtain ⟨h0, h1, h2, h3, h4, h5, h6⟩ := h
  obtain ⟨s0, s1⟩ := hs
  intro x
  rw [s1]
  by_cases c1 : m - i ≤ x ∧ x < m - i + i
  · rw [if_pos c1, h5 x c1.1 c1.2]; congr 1; omega
  · rw [if_neg c1]
    by_cases c2 : m ≤ x ∧ x < m + i
    · rw [if_pos c2, h6 x (by omega) (by omega)]; congr 1; omega
    · rw [if_neg c2]
      by_cases c3 : x < m - i
      · rw [h3 x c3]
      · rw [h4 x (by omega)]
/-- the windows [a, m) and [m, b) have changed places -/
def RotS (d : Array α) (a m b : Nat) (d' : Array α) : Prop :=
  d'.size = d.size ∧ ∀ x, d'[x]! = if a ≤ x ∧ x < a + (b - m) then d[x + (m - a)]! else if a + (b - m) ≤ x ∧ x < b then d[x - (b - m)]! else d[x]!
theorem ext_get! {d d' : Array α} (hs : d.size = d'.size) (h : ∀ x : Nat, d[x]! = d'[x]!) : d = d' := by
  refine Array.ext hs fun i h1 h2 => ?_
  have := h i
  rwa [getElem!_pos d i h1, getElem!_pos d' i h2] at this
def rotT (d : Array α) (a m b : Nat) : Array α := Array.ofFn (n := d.size) fun x => if a ≤ x.val ∧ x.val < a + (b - m) then d[x.val + (m - a)]! else if a + (b - m) ≤ x.val ∧ x.val < b then d[x.val - (b - m)]! else d[x.val]!
theorem rotT_spec (d : Array α) (a m b : Nat) (ham : a ≤ m) (hmb : m ≤ b) (hb : b ≤ d.size) : RotS d a m b (rotT d a m b) := by
  refine ⟨by simp [rotT], fun x => ?_⟩
  by_cases hx : x < d.size
  · rw [getElem!_pos _ x (by simpa [rotT] using hx)]
    unfold rotT
    rw [Array.getElem_ofFn]
  · rw [getElem!_neg _ x (by simpa [rotT] using hx), if_neg (by omega), if_neg (by omega), getElem!_neg _ x hx]
theorem Rot.start (d : Array α) (a m b : Nat) (ham : a ≤ m) (hmb : m ≤ b) (hb : b ≤ d.size) : Rot (rotT d a m b) d m (m - a) (b - m) := by
  obtain ⟨r0, r1⟩ := rotT_spec d a m b ham hmb hb
  refine ⟨by omega, r0.symm, by omega, fun x hx => ?_, fun x hx => ?_, fun x hx hx2 => ?_, fun x hx hx2 => ?_⟩
  · rw [r1, if_neg (by omega), if_neg (by omega)]
  · rw [r1, if_neg (by omega), if_neg (by omega)]
  · rw [r1, if_pos (by omega)]
  · rw [r1, if_neg (by omega), if_pos (by omega)]
theorem Rot.done {d dk dk' : Array α} {a m b i : Nat} (ham : a ≤ m) (hmb : m ≤ b) (hb : b ≤ d.size) (h : Rot (rotT d a m b) dk m i i) (hs : SwR dk (m - i) m i dk') : RotS d a m b dk' := by
  obtain ⟨r0, r1⟩ := rotT_spec d a m b ham hmb hb
  refine ⟨by rw [hs.1, h.size, r0], fun x => ?_⟩
  rw [h.last hs, r1]

/-- a strict total order by which the sort is stable: at two elements of which one was before the other the test decides it -/
structure Stab (lt slt : α → α → Bool) (idn : α → Nat) : Prop where
  swo : SWO slt
  at_ : ∀ x y, idn x < idn y → slt y x = lt y x ∧ slt x y = !lt y x
def Asc (idn : α → Nat) (a m b : Nat) (d : Array α) : Prop := ∀ i j, a ≤ i → i < m → m ≤ j → j < b → idn d[i]! < idn d[j]!
variable {lt slt : α → α → Bool} {idn : α → Nat}
omit [Inhabited α] in
/-- where the test says no, the left one is before the right one -/
theorem Stab.no (S : Stab lt slt idn) {x y : α} (h : idn x < idn y) (hl : lt y x = false) : slt x y = true := by rw [(S.at_ x y h).2, hl]; rfl
omit [Inhabited α] in
theorem Stab.yes (S : Stab lt slt idn) {x y : α} (h : idn x < idn y) (hl : lt y x = true) : slt y x = true := by rw [(S.at_ x y h).1, hl]
omit [Inhabited α] in
theorem Stab.asymm (S : Stab lt slt idn) {x y : α} (h : slt x y = true) : slt y x = false := S.swo.asymmA h
omit [Inhabited α] in
/-- x at most y, y at most z -/
theorem Stab.le_trans (S : Stab lt slt idn) {x y z : α} (h1 : slt y x = false) (h2 : slt z y = false) : slt z x = false := S.swo.ntrans _ _ _ h2 h1
theorem SortedIn.le {a b : Nat} {d : Array α} (S : Stab lt slt idn) (h : SortedIn slt a b d) {i j : Nat} (h1 : a ≤ i) (h2 : i ≤ j) (h3 : j < b) : slt d[j]! d[i]! = false := by
  by_cases e : i = j
  · subst e; exact S.swo.irrefl _
  · exact h i j h1 (by omega) h3
theorem SortedIn.sub {a b a' b' : Nat} {d : Array α} (h : SortedIn slt a b d) (ha : a ≤ a') (hb : b' ≤ b) : SortedIn slt a' b' d := fun i j h1 h2 h3 => h i j (by omega) h2 (by omega)
theorem sortedIn_one {a b : Nat} {d : Array α} (h : b ≤ a + 1) : SortedIn slt a b d := fun i j h1 h2 h3 => by omega
/-- what one element goes through on its way up (data[a] to i - 1) -/
def moveUp (d : Array α) (a : Nat) (k : Nat) (dk : Array α) : Prop := dk.size = d.size ∧ a ≤ k ∧ ∀ x, dk[x]! = if a ≤ x ∧ x < k then d[x + 1]! else if x = k then d[a]! else d[x]!
theorem moveUp.start (d : Array α) (a : Nat) : moveUp d a a d := ⟨rfl, Nat.le_refl _, fun x => by
  rw [if_neg (by omega)]; split
  · subst x; rfl
  · rfl⟩
theorem moveUp.step {d dk : Array α} {a k : Nat} (h : moveUp d a k dk) (hk : k + 1 < d.size) : moveUp d a (k + 1) (swp dk k (k + 1)) := by
  obtain ⟨h0, h1, h2⟩ := h
  refine ⟨by rw [swp_size]; exact h0, by omega, fun x => ?_⟩
  rw [swp_get dk (by omega) (by omega)]
  by_cases e1 : x = k + 1
  · subst e1; rw [if_pos rfl, if_neg (by omega), if_pos rfl, h2, if_neg (by omega), if_pos rfl]
  · rw [if_neg e1]
    by_cases e2 : x = k
    · subst e2; rw [if_pos rfl, if_pos (by omega), h2, if_neg (by omega), if_neg (by omega)]
    · rw [if_neg e2, h2]
      by_cases c : a ≤ x ∧ x < k
      · rw [if_pos c, if_pos (by omega)]
      · rw [if_neg c, if_neg e2, if_neg (by omega), if_neg e1]
theorem moveUp.in_ {d dk : Array α} {a k : Nat} (h : moveUp d a k dk) (x : Nat) (h1 : a ≤ x) (h2 : x < k) : dk[x]! = d[x + 1]! := by rw [h.2.2, if_pos ⟨h1, h2⟩]
theorem moveUp.at_ {d dk : Array α} {a k : Nat} (h : moveUp d a k dk) : dk[k]! = d[a]! := by rw [h.2.2, if_neg (by omega), if_pos rfl]
theorem moveUp.out_ {d dk : Array α} {a k : Nat} (h : moveUp d a k dk) (x : Nat) (h1 : k < x) : dk[x]! = d[x]! := by rw [h.2.2, if_neg (by omega), if_neg (by omega)]
/-- what one element goes through on its way down (data[m] to i) -/
def moveDn (d : Array α) (m : Nat) (k : Nat) (dk : Array α) : Prop := dk.size = d.size ∧ k ≤ m ∧ ∀ x, dk[x]! = if k < x ∧ x ≤ m then d[x - 1]! else if x = k then d[m]! else d[x]!
theorem moveDn.start (d : Array α) (m : Nat) : moveDn d m m d := ⟨rfl, Nat.le_refl _, fun x => by
  rw [if_neg (by omega)]; split
  · subst x; rfl
  · rfl⟩
theorem moveDn.step {d dk : Array α} {m k : Nat} (h : moveDn d m (k + 1) dk) (hm : m < d.size) : moveDn d m k (swp dk (k + 1) k) := by
  obtain ⟨h0, h1, h2⟩ := h
  refine ⟨by rw [swp_size]; exact h0, by omega, fun x => ?_⟩
  rw [swp_get dk (by omega) (by omega)]
  by_cases e1 : x = k
  · subst e1; rw [if_pos rfl, if_neg (by omega), if_pos rfl, h2, if_neg (by omega), if_pos rfl]
  · rw [if_neg e1]
    by_cases e2 : x = k + 1
    · subst e2; rw [if_pos rfl, if_pos (by omega), h2, if_neg (by omega), if_neg (by omega)]; congr 1
    · rw [if_neg e2, h2]
      by_cases c : k + 1 < x ∧ x ≤ m
      · rw [if_pos c, if_pos (by omega)]
      · rw [if_neg c, if_neg e2, if_neg (by omega), if_neg e1]
theorem moveDn.in_ {d dk : Array α} {m k : Nat} (h : moveDn d m k dk) (x : Nat) (h1 : k < x) (h2 : x ≤ m) : dk[x]! = d[x - 1]! := by rw [h.2.2, if_pos ⟨h1, h2⟩]
theorem moveDn.at_ {d dk : Array α} {m k : Nat} (h : moveDn d m k dk) : dk[k]! = d[m]! := by rw [h.2.2, if_neg (by omega), if_pos rfl]
theorem moveDn.out_ {d dk : Array α} {m k : Nat} (h : moveDn d m k dk) (x : Nat) (h1 : x < k) : dk[x]! = d[x]! := by rw [h.2.2, if_neg (by omega), if_neg (by omega)]

/-- SymMerge where the left run is one element -/
theorem merge_left {d d' : Array α} {a b i : Nat} (S : Stab lt slt idn) (hsz : b ≤ d.size) (hab : a + 1 < b) (h2 : SortedIn slt (a + 1) b d) (hA : Asc idn a (a + 1) b d) (hi1 : a + 1 ≤ i) (hi2 : i ≤ b)
    (lo : i = a + 1 ∨ lt d[i - 1]! d[a]! = true) (hi : i = b ∨ lt d[i]! d[a]! = false) (hm : moveUp d a (i - 1) d') : SortedIn slt a b d' := by
  have below : ∀ x, a + 1 ≤ x → x < i → slt d[x]! d[a]! = true := fun x h3 h4 => by
    rcases lo with rfl | lo
    · omega
    · have h5 := S.yes (hA a (i - 1) (Nat.le_refl _) (by omega) (by omega) (by omega)) lo
      by_cases e : x = i - 1
      · rw [e]; exact h5
      · cases hc : slt d[x]! d[a]! with
        | true => rfl
        | false =>
          have h6 := h2 x (i - 1) h3 (by omega) (by omega)
          have := S.swo.ntrans _ _ _ h6 hc
          rw [h5] at this; cases this
  have above : ∀ x, i ≤ x → x < b → slt d[x]! d[a]! = false := fun x h3 h4 => by
    rcases hi with rfl | hi
    · omega
    · have h5 := (S.at_ d[a]! d[i]! (hA a i (Nat.le_refl _) (by omega) (by omega) (by omega))).1
      rw [hi] at h5
      exact S.le_trans h5 (SortedIn.le S h2 (by omega) h3 h4)
  intro p q hap hpq hqb
  by_cases cp : p < i - 1
  · rw [hm.in_ p hap cp]
    by_cases cq : q < i - 1
    · rw [hm.in_ q (by omega) cq]
      exact h2 _ _ (by omega) (by omega) (by omega)
    · by_cases eq : q = i - 1
      · rw [eq, hm.at_]
        exact S.asymm (below (p + 1) (by omega) (by omega))
      · rw [hm.out_ q (by omega)]
        exact h2 _ _ (by omega) (by omega) (by omega)
  · rw [hm.out_ q (by omega)]
    by_cases ep : p = i - 1
    · rw [ep, hm.at_]
      exact above q (by omega) hqb
    · rw [hm.out_ p (by omega)]
      exact h2 _ _ (by omega) hpq hqb
/-- SymMerge where the right run is one element -/
theorem merge_right {d d' : Array α} {a m i : Nat} (S : Stab lt slt idn) (hsz : m < d.size) (ham : a < m) (h1 : SortedIn slt a m d) (hA : Asc idn a m (m + 1) d) (hi1 : a ≤ i) (hi2 : i ≤ m)
    (lo : i = a ∨ lt d[m]! d[i - 1]! = false) (hi : i = m ∨ lt d[m]! d[i]! = true) (hm : moveDn d m i d') : SortedIn slt a (m + 1) d' := by
  have below : ∀ x, a ≤ x → x < i → slt d[m]! d[x]! = false := fun x h3 h4 => by
    rcases lo with rfl | lo
    · omega
    · have h5 := (S.at_ d[i - 1]! d[m]! (hA (i - 1) m (by omega) (by omega) (Nat.le_refl _) (by omega))).1
      rw [lo] at h5
      exact S.le_trans (SortedIn.le S h1 h3 (by omega) (by omega)) h5
  have above : ∀ x, i ≤ x → x < m → slt d[x]! d[m]! = false := fun x h3 h4 => by
    rcases hi with rfl | hi
    · omega
    · have h5 := S.asymm (S.yes (hA i m (by omega) (by omega) (Nat.le_refl _) (by omega)) hi)
      exact S.le_trans h5 (SortedIn.le S h1 (by omega) h3 h4)
  intro p q hap hpq hqb
  by_cases cp : i < p
  · rw [hm.in_ p cp (by omega), hm.in_ q (by omega) (by omega)]
    exact h1 _ _ (by omega) (by omega) (by omega)
  · by_cases ep : p = i
    · rw [ep, hm.at_, hm.in_ q (by omega) (by omega)]
      exact above _ (by omega) (by omega)
    · rw [hm.out_ p (by omega)]
      by_cases cq : i < q
      · rw [hm.in_ q cq (by omega)]
        exact h1 _ _ (by omega) (by omega) (by omega)
      · by_cases eq : q = i
        · rw [eq, hm.at_]
          exact below p hap (by omega)
        · rw [hm.out_ q (by omega)]
          exact h1 _ _ (by omega) (by omega) (by omega)
/-- what the rotation of SymMerge leaves -/
structure Mid (slt : α → α → Bool) (idn : α → Nat) (a s mid e b : Nat) (d : Array α) : Prop where
  l1 : SortedIn slt a s d
  l2 : SortedIn slt s mid d
  r1 : SortedIn slt mid e d
  r2 : SortedIn slt e b d
  al : Asc idn a s mid d
  ar : Asc idn mid e b d
  cross : ∀ i j, a ≤ i → i < mid → mid ≤ j → j < b → slt d[j]! d[i]! = false
theorem sym_mid {d d1 : Array α} {a m b s mid : Nat} (S : Stab lt slt idn) (hsz : b ≤ d.size) (hmid : mid = (a + b) / 2) (ham : a < m) (hmb : m < b) (h1 : SortedIn slt a m d) (h2 : SortedIn slt m b d) (hA : Asc idn a m b d)
    (s1 : a ≤ s) (s2 : s ≤ m) (s3 : s ≤ mid) (s4 : mid + m ≤ b + s)
    (lo : s = a ∨ mid + m - s = b ∨ lt d[mid + m - s]! d[s - 1]! = false) (hi : s = m ∨ mid + m - s = m ∨ lt d[mid + m - s - 1]! d[s]! = true)
    (hr : RotS d s m (mid + m - s) d1) : Mid slt idn a s mid (mid + m - s) b d1 := by
  obtain ⟨h0, hx⟩ := hr
  obtain ⟨e, he⟩ : ∃ e, mid + m - s = e := ⟨_, rfl⟩
  rw [he] at lo hi hx ⊢
  have e1 : m ≤ e := by omega
  have e2 : e ≤ b := by omega
  have e3 : s + (e - m) = mid := by omega
  have xa : ∀ x, x < s → d1[x]! = d[x]! := fun x h => by rw [hx, if_neg (by omega), if_neg (by omega)]
  have xb : ∀ x, s ≤ x → x < mid → d1[x]! = d[x + (m - s)]! := fun x h h' => by rw [hx, if_pos (by omega)]
  have xc : ∀ x, mid ≤ x → x < e → d1[x]! = d[x - (e - m)]! := fun x h h' => by rw [hx, if_neg (by omega), if_pos (by omega)]
  have xd : ∀ x, e ≤ x → d1[x]! = d[x]! := fun x h => by rw [hx, if_neg (by omega), if_neg (by omega)]
  refine ⟨fun i j c1 c2 c3 => ?_, fun i j c1 c2 c3 => ?_, fun i j c1 c2 c3 => ?_, fun i j c1 c2 c3 => ?_, fun i j c1 c2 c3 c4 => ?_, fun i j c1 c2 c3 c4 => ?_, fun i j c1 c2 c3 c4 => ?_⟩
  · rw [xa i (by omega), xa j (by omega)]; exact h1 i j c1 c2 (by omega)
  · rw [xb i (by omega) (by omega), xb j (by omega) (by omega)]; exact h2 _ _ (by omega) (by omega) (by omega)
  · rw [xc i (by omega) (by omega), xc j (by omega) (by omega)]; exact h1 _ _ (by omega) (by omega) (by omega)
  · rw [xd i (by omega), xd j (by omega)]; exact h2 i j (by omega) c2 c3
  · rw [xa i (by omega), xb j (by omega) (by omega)]; exact hA _ _ (by omega) (by omega) (by omega) (by omega)
  · rw [xc i (by omega) (by omega), xd j (by omega)]; exact hA _ _ (by omega) (by omega) (by omega) (by omega)
  · by_cases ci : i < s
    · rw [xa i ci]
      by_cases cj : j < e
      · rw [xc j c3 cj]; exact h1 _ _ (by omega) (by omega) (by omega)
      · rw [xd j (by omega)]
        rcases lo with lo | lo | lo
        · omega
        · omega
        · have h5 := (S.at_ d[s - 1]! d[e]! (hA (s - 1) e (by omega) (by omega) (by omega) (by omega))).1
          rw [lo] at h5
          exact S.le_trans (SortedIn.le S h1 c1 (show i ≤ s - 1 by omega) (by omega)) (S.le_trans h5 (SortedIn.le S h2 (by omega) (by omega) c4))
    · rw [xb i (by omega) c2]
      by_cases cj : j < e
      · rw [xc j c3 cj]
        rcases hi with hi | hi | hi
        · omega
        · omega
        · have h5 := S.asymm (S.yes (hA s (e - 1) (by omega) (by omega) (by omega) (by omega)) hi)
          exact S.le_trans (SortedIn.le S h2 (by omega) (show i + (m - s) ≤ e - 1 by omega) (by omega)) (S.le_trans h5 (SortedIn.le S h1 (by omega) (by omega) (by omega)))
      · rw [xd j (by omega)]; exact SortedIn.le S h2 (by omega) (by omega) c4
/-- both halves merged -/
theorem sym_done {d1 d2 d3 : Array α} {a s mid e b : Nat} (hsz : b ≤ d1.size) (ha : a ≤ mid) (hb : mid ≤ b) (h : Mid slt idn a s mid e b d1)
    (p2 : PermIn a mid d1 d2) (q2 : SortedIn slt a mid d2) (p3 : PermIn mid b d2 d3) (q3 : SortedIn slt mid b d3) : SortedIn slt a b d3 := by
  have c2 : ∀ i j, a ≤ i → i < mid → mid ≤ j → j < b → slt d2[j]! d2[i]! = false := fun i j c1 c2 c3 c4 => by
    rw [p2.2.1 j (Or.inr c3)]
    exact permIn_all d1 d2 a mid (fun x => slt d1[j]! x = false) (by omega) p2 (fun k k1 k2 => h.cross k j k1 k2 c3 c4) i c1 c2
  intro i j h1 h2 h3
  by_cases ci : i < mid
  · rw [p3.2.1 i (Or.inl ci)]
    by_cases cj : j < mid
    · rw [p3.2.1 j (Or.inl cj)]; exact q2 i j h1 h2 cj
    · exact permIn_all d2 d3 mid b (fun x => slt x d2[i]! = false) (by rw [p2.1]; exact hsz) p3 (fun k k1 k2 => c2 i k h1 ci k1 k2) j (by omega) h3
  · exact q3 i j (by omega) h2 h3
end Go.Proofs.YtmglbegbijofkaaGreatDoor
/- Plain: the blocks of the stable sort: sorted runs between boundaries, joined two by two; the insertion sort of a block is stable. -/
namespace Go.Proofs.YtmglbegbijofkaaGreatDoor
open Go.Sort
variable {α : Type} [Inhabited α] {lt slt : α → α → Bool} {idn : α → Nat}

/-- runs between the boundaries B: each sorted, and whatever lies before a boundary was before whatever lies behind it -/
structure Runs (slt : α → α → Bool) (idn : α → Nat) (n : Nat) (B : Nat → Prop) (d : Array α) : Prop where
  asc : ∀ c, B c → Asc idn 0 c n d
  srt : ∀ c e, B c → (∀ x, c < x → x < e → ¬ B x) → e ≤ n → SortedIn slt c e d
theorem Runs.congr {n : Nat} {B B' : Nat → Prop} {d : Array α} (h : Runs slt idn n B d) (hB : ∀ c, B c ↔ B' c) : Runs slt idn n B' d :=
  ⟨fun c hc => h.asc c ((hB c).2 hc), fun c e hc hx he => h.srt c e ((hB c).2 hc) (fun x h1 h2 h3 => hx x h1 h2 ((hB x).1 h3)) he⟩
theorem Runs.step {n : Nat} {B : Nat → Prop} {d d' : Array α} {a b : Nat} (h : Runs slt idn n B d) (hn : n ≤ d.size) (ha : B a) (hb : B b ∨ b = n) (hab : a ≤ b) (hbn : b ≤ n) (hp : PermIn a b d d') (hs : SortedIn slt a b d') :
    Runs slt idn n (fun c => B c ∧ ¬ (a < c ∧ c < b)) d' := by
  have pa : ∀ (p : α → Prop), (∀ i, a ≤ i → i < b → p d[i]!) → ∀ i, a ≤ i → i < b → p d'[i]! := fun p => permIn_all d d' a b p (by omega) hp
  refine ⟨fun c hc i j _ h2 h3 h4 => ?_, fun c e hc hx he => ?_⟩
  · have hA := h.asc c hc.1
    by_cases ci : a ≤ i ∧ i < b
    · have hcb : b ≤ c := by
        have := hc.2
        omega
      rw [hp.2.1 j (Or.inr (by omega))]
      exact pa (fun x => idn x < idn d[j]!) (fun k k1 k2 => hA k j (Nat.zero_le _) (by omega) h3 h4) i ci.1 ci.2
    · rw [hp.2.1 i (by omega)]
      by_cases cj : a ≤ j ∧ j < b
      · have hca : c ≤ a := by
          have := hc.2
          omega
        exact pa (fun x => idn d[i]! < idn x) (fun k k1 k2 => hA i k (Nat.zero_le _) h2 (by omega) (by omega)) j cj.1 cj.2
      · rw [hp.2.1 j (by omega)]
        exact hA i j (Nat.zero_le _) h2 h3 h4
  · have keep : (e ≤ a ∨ b ≤ c) → SortedIn slt c e d' := fun hk => by
      have h1 := h.srt c e hc.1 (fun x h1 h2 h3 => hx x h1 h2 ⟨h3, by omega⟩) he
      intro i j i1 i2 i3
      rw [hp.2.1 i (by omega), hp.2.1 j (by omega)]
      exact h1 i j i1 i2 i3
    by_cases e1 : c = a
    · subst e1
      by_cases hcb : c = b
      · exact keep (Or.inr (by omega))
      · have hbe : e ≤ b := by
          rcases hb with hb | rfl
          · by_cases hbe : b < e
            · exact absurd ⟨hb, by omega⟩ (hx b (by omega) hbe)
            · omega
          · exact he
        exact SortedIn.sub hs (Nat.le_refl _) hbe
    · by_cases e2 : c < a
      · have : e ≤ a := by
          by_cases hae : a < e
          · exact absurd ⟨ha, by omega⟩ (hx a e2 hae)
          · omega
        exact keep (Or.inl this)
      · have := hc.2
        exact keep (Or.inr (by omega))
theorem Runs.start {d : Array α} {n : Nat} (h : ∀ i j, i < j → j < n → idn d[i]! < idn d[j]!) : Runs slt idn n (fun _ => True) d :=
  ⟨fun c _ i j _ h2 h3 h4 => h i j (by omega) h4, fun c e _ hx _ => sortedIn_one (by
    by_cases he : e ≤ c + 1
    · exact he
    · exact absurd trivial (hx (c + 1) (by omega) (by omega)))⟩

/-- the insertion sort of a block whose elements come in their order -/
theorem ins_inner (S : Stab lt slt idn) (a i : Nat) : ∀ (j : Nat) (d : Array α), a ≤ j → j ≤ i → i < d.size → Ins slt a j i d → (∀ p, a ≤ p → p ≤ i → p ≠ j → idn d[p]! < idn d[j]!) → PermIn a (i + 1) d (insInner lt a j d) ∧ SortedIn slt a (i + 1) (insInner lt a j d)
  | 0, d, _, _, _, hI, _ => by
    unfold insInner
    exact ⟨permIn_refl d a _, hI.stop S.swo (Or.inl (Nat.zero_le _))⟩
  | j + 1, d, haj, hji, hb, hI, hid => by
    unfold insInner
    split
    · rename_i hc
      simp only [Bool.and_eq_true, decide_eq_true_eq] at hc
      have hl : slt d[j + 1]! d[j]! = true := S.yes (hid j (by omega) (by omega) (by omega)) hc.2
      have g := swp_get d (show j + 1 < d.size by omega) (show j < d.size by omega)
      have ih := ins_inner S a i j (swp d (j + 1) j) (by omega) (by omega) (by rw [swp_size]; exact hb) (hI.step hl (by omega) (by omega)) (fun p h1 h2 h3 => by
        have e0 : (swp d (j + 1) j)[j]! = d[j + 1]! := by rw [g, if_pos rfl]
        rw [e0, g, if_neg h3]
        by_cases e : p = j + 1
        · rw [if_pos e]; exact hid j (by omega) (by omega) (by omega)
        · rw [if_neg e]; exact hid p h1 h2 e)
      exact ⟨permIn_trans _ _ _ a (i + 1) (swp_permIn d a (i + 1) (j + 1) j haj (by omega) (by omega) (by omega) (by omega)) ih.1, ih.2⟩
    · rename_i hc
      simp only [Bool.and_eq_true, decide_eq_true_eq, not_and, Bool.not_eq_true] at hc
      refine ⟨permIn_refl d a _, hI.stop S.swo ?_⟩
      by_cases h : j + 1 > a
      · refine Or.inr ?_
        have := hc h
        show slt d[j + 1]! d[j]! = false
        rw [(S.at_ d[j]! d[j + 1]! (hid j (by omega) (by omega) (by omega))).1]
        exact this
      · exact Or.inl (by omega)
theorem ins_outer (S : Stab lt slt idn) (a b : Nat) : ∀ (k i : Nat) (d : Array α), b - i = k → a < i → i ≤ b → b ≤ d.size → SortedIn slt a i d → (∀ p q, a ≤ p → p < q → i ≤ q → q < b → idn d[p]! < idn d[q]!) → PermIn a b d (insOuter lt a b i d) ∧ SortedIn slt a b (insOuter lt a b i d)
  | 0, i, d, hn, _, hib, _, hs, _ => by
    obtain rfl : i = b := by omega
    rw [insOuter, if_neg (by omega)]
    exact ⟨permIn_refl d a i, hs⟩
  | k + 1, i, d, hn, hai, hib, hb, hs, hid => by
    have hlt : i < b := by omega
    rw [insOuter, if_pos hlt]
    have h1 := ins_inner S a i i d (by omega) (Nat.le_refl _) (by omega) ⟨fun p q hap hpq hqi _ hq => hs p q hap hpq (by omega), fun q h1 h2 => by omega⟩ (fun p p1 p2 p3 => hid p i p1 (by omega) (Nat.le_refl _) hlt)
    have pa : ∀ (p : α → Prop), (∀ x, a ≤ x → x < i + 1 → p d[x]!) → ∀ x, a ≤ x → x < i + 1 → p (insInner lt a i d)[x]! := fun p => permIn_all d _ a (i + 1) p (by omega) h1.1
    have h2 := ins_outer S a b k (i + 1) (insInner lt a i d) (by omega) (by omega) (by omega) (by rw [h1.1.1]; exact hb) h1.2 (fun p q p1 p2 p3 p4 => by
      rw [h1.1.2.1 q (Or.inr (by omega))]
      by_cases hp : p < i + 1
      · exact pa (fun x => idn x < idn d[q]!) (fun x x1 x2 => hid x q x1 (by omega) (by omega) p4) p p1 hp
      · rw [h1.1.2.1 p (Or.inr (by omega))]; exact hid p q p1 p2 (by omega) p4)
    exact ⟨permIn_trans _ _ _ a b (permIn_mono d _ a (i + 1) a b (Nat.le_refl _) (by omega) hb h1.1) h2.1, h2.2⟩
theorem ins_stable (S : Stab lt slt idn) (a b : Nat) (d : Array α) (hab : a ≤ b) (hb : b ≤ d.size) (hid : ∀ p q, a ≤ p → p < q → q < b → idn d[p]! < idn d[q]!) : PermIn a b d (Sort.insertionSort lt d a b) ∧ SortedIn slt a b (Sort.insertionSort lt d a b) := by
  unfold Sort.insertionSort
  by_cases h : a = b
  · subst h
    rw [insOuter, if_neg (by omega)]
    exact ⟨permIn_refl d a a, sortedIn_one (by omega)⟩
  · exact ins_outer S a b (b - (a + 1)) (a + 1) d rfl (by omega) (by omega) hb (sortedIn_one (by omega)) (fun p q h1 h2 _ h4 => hid p q h1 h2 h4)

/-- the boundaries: multiples of w, and of 1 (insertion) or of w (a pass) from a on -/
def bdI (a c : Nat) : Prop := (∃ k, c = k * 20) ∨ a ≤ c
def bdP (w a c : Nat) : Prop := (∃ k, c = k * w ∧ a ≤ c) ∨ (∃ k, c = k * (2 * w))
theorem mul_between {w k t : Nat} (h1 : t * w < k * w) (h2 : k * w < (t + 1) * w) : False := by
  have e1 : t < k := Nat.lt_of_mul_lt_mul_right h1
  have e2 : k < t + 1 := Nat.lt_of_mul_lt_mul_right h2
  omega
theorem mul_between2 {w k t : Nat} (h1 : t * w < k * w) (h2 : k * w < (t + 2) * w) : k = t + 1 := by
  have e1 : t < k := Nat.lt_of_mul_lt_mul_right h1
  have e2 : k < t + 2 := Nat.lt_of_mul_lt_mul_right h2
  omega
theorem runs_block {n t : Nat} {d d' : Array α} (h : Runs slt idn n (bdI (t * 20)) d) (hn : n ≤ d.size) (hb : t * 20 + 20 ≤ n) (hp : PermIn (t * 20) (t * 20 + 20) d d') (hs : SortedIn slt (t * 20) (t * 20 + 20) d') :
    Runs slt idn n (bdI ((t + 1) * 20)) d' := by
  refine (h.step hn (Or.inl ⟨t, rfl⟩) (Or.inl (Or.inr (by omega))) (by omega) hb hp hs).congr fun c => ?_
  unfold bdI
  constructor
  · rintro ⟨h1 | h1, h2⟩
    · exact Or.inl h1
    · by_cases e : c = t * 20
      · exact Or.inl ⟨t, e⟩
      · exact Or.inr (by omega)
  · rintro (⟨k, hk⟩ | h1)
    · exact ⟨Or.inl ⟨k, hk⟩, by omega⟩
    · exact ⟨Or.inr (by omega), by omega⟩
theorem runs_block_last {n t : Nat} {d d' : Array α} (h : Runs slt idn n (bdI (t * 20)) d) (hn : n ≤ d.size) (h1 : t * 20 ≤ n) (hb : n < t * 20 + 20) (hp : PermIn (t * 20) n d d') (hs : SortedIn slt (t * 20) n d') :
    Runs slt idn n (bdP 20 0) d' := by
  have h2 := h.step hn (Or.inl ⟨t, rfl⟩) (Or.inr rfl) h1 (Nat.le_refl _) hp hs
  refine ⟨fun c hc i j i1 i2 i3 i4 => ?_, fun c e hc hx he => ?_⟩
  · obtain ⟨k, hk⟩ : ∃ k, c = k * 20 := by
      rcases hc with ⟨k, hk, _⟩ | ⟨k, hk⟩
      · exact ⟨k, hk⟩
      · exact ⟨2 * k, by rw [hk]; omega⟩
    exact h2.asc c ⟨Or.inl ⟨k, hk⟩, by omega⟩ i j i1 i2 i3 i4
  · obtain ⟨k, hk⟩ : ∃ k, c = k * 20 := by
      rcases hc with ⟨k, hk, _⟩ | ⟨k, hk⟩
      · exact ⟨k, hk⟩
      · exact ⟨2 * k, by rw [hk]; omega⟩
    refine h2.srt c e ⟨Or.inl ⟨k, hk⟩, by omega⟩ (fun x x1 x2 x3 => ?_) he
    rcases x3.1 with ⟨k2, hk2⟩ | h4
    · exact hx x x1 x2 (Or.inl ⟨k2, hk2, Nat.zero_le _⟩)
    · have h5 := x3.2
      by_cases e2 : x = t * 20
      · exact hx x x1 x2 (Or.inl ⟨t, e2, Nat.zero_le _⟩)
      · omega
theorem runs_pair {n w t : Nat} {d d' : Array α} (hw : 0 < w) (h : Runs slt idn n (bdP w (t * (2 * w))) d) (hn : n ≤ d.size) (hb : t * (2 * w) + 2 * w ≤ n) (hp : PermIn (t * (2 * w)) (t * (2 * w) + 2 * w) d d') (hs : SortedIn slt (t * (2 * w)) (t * (2 * w) + 2 * w) d') :
    Runs slt idn n (bdP w ((t + 1) * (2 * w))) d' := by
  have e1 : t * (2 * w) = (2 * t) * w := by rw [← Nat.mul_assoc, Nat.mul_comm t 2]
  have e2 : (t + 1) * (2 * w) = t * (2 * w) + 2 * w := Nat.succ_mul _ _
  have e3 : t * (2 * w) + 2 * w = (2 * t + 2) * w := by rw [e1, Nat.add_mul]
  refine (h.step hn (Or.inr ⟨t, rfl⟩) (Or.inl (Or.inr ⟨t + 1, e2.symm⟩)) (by omega) hb hp hs).congr fun c => ?_
  unfold bdP
  rw [e2]
  constructor
  · rintro ⟨⟨k, hk, h1⟩ | h1, h2⟩
    · by_cases c1 : c < t * (2 * w) + 2 * w
      · have : c = t * (2 * w) := by omega
        exact Or.inr ⟨t, this⟩
      · exact Or.inl ⟨k, hk, by omega⟩
    · exact Or.inr h1
  · rintro (⟨k, hk, h1⟩ | ⟨k, hk⟩)
    · exact ⟨Or.inl ⟨k, hk, by omega⟩, by omega⟩
    · refine ⟨Or.inr ⟨k, hk⟩, fun ⟨c1, c2⟩ => ?_⟩
      rw [hk] at c1 c2
      rw [← e2] at c2
      exact mul_between c1 c2
theorem bdP_mul {w c : Nat} : bdP w 0 c ↔ ∃ k, c = k * w := by
  unfold bdP
  constructor
  · rintro (⟨k, hk, _⟩ | ⟨k, hk⟩)
    · exact ⟨k, hk⟩
    · exact ⟨k * 2, by rw [hk, Nat.mul_assoc]⟩
  · rintro ⟨k, hk⟩
    exact Or.inl ⟨k, hk, Nat.zero_le _⟩
/-- the boundaries beyond n - 1 do not matter -/
theorem Runs.upto {n : Nat} {B B' : Nat → Prop} {d : Array α} (h : Runs slt idn n B d) (hB : ∀ c, c < n → (B c ↔ B' c)) : Runs slt idn n B' d :=
  ⟨fun c hc i j h1 h2 h3 h4 => h.asc c ((hB c (by omega)).2 hc) i j h1 h2 h3 h4, fun c e hc hx he => by
    by_cases hcn : c < n
    · exact h.srt c e ((hB c hcn).2 hc) (fun x h1 h2 h3 => hx x h1 h2 ((hB x (by omega)).1 h3)) he
    · exact sortedIn_one (by omega)⟩
theorem runs_pass_merge {n w t : Nat} {d d' : Array α} (hw : 0 < w) (h : Runs slt idn n (bdP w (t * (2 * w))) d) (hn : n ≤ d.size) (h1 : t * (2 * w) + w < n) (hb : n < t * (2 * w) + 2 * w) (hp : PermIn (t * (2 * w)) n d d') (hs : SortedIn slt (t * (2 * w)) n d') :
    Runs slt idn n (bdP (2 * w) 0) d' := by
  have e2 : (t + 1) * (2 * w) = t * (2 * w) + 2 * w := Nat.succ_mul _ _
  refine (h.step hn (Or.inr ⟨t, rfl⟩) (Or.inr rfl) (by omega) (Nat.le_refl _) hp hs).upto fun c hc => ?_
  rw [bdP_mul]
  constructor
  · rintro ⟨⟨k, hk, h2⟩ | h2, h3⟩
    · exact ⟨t, by omega⟩
    · exact h2
  · rintro ⟨k, hk⟩
    refine ⟨Or.inr ⟨k, hk⟩, fun ⟨c1, c2⟩ => ?_⟩
    rw [hk] at c1 c2
    exact mul_between c1 (by rw [e2]; omega)
theorem runs_pass_none {n w t : Nat} {d : Array α} (h : Runs slt idn n (bdP w (t * (2 * w))) d) (h1 : n ≤ t * (2 * w) + w) : Runs slt idn n (bdP (2 * w) 0) d := by
  have e1 : t * (2 * w) = (2 * t) * w := by rw [← Nat.mul_assoc, Nat.mul_comm t 2]
  have e3 : (2 * t + 1) * w = t * (2 * w) + w := by rw [Nat.add_mul, ← e1, Nat.one_mul]
  refine h.upto fun c hc => ?_
  rw [bdP_mul]
  unfold bdP
  constructor
  · rintro (⟨k, hk, h2⟩ | h2)
    · by_cases e : c = t * (2 * w)
      · exact ⟨t, e⟩
      · exfalso
        rw [hk, e1] at h2 e
        exact mul_between (w := w) (k := k) (t := 2 * t) (by omega) (by rw [e3]; omega)
    · exact h2
  · rintro ⟨k, hk⟩
    exact Or.inr ⟨k, hk⟩
/-- what a merge of a pair is handed -/
theorem runs_pre {n w t b : Nat} {d : Array α} (h : Runs slt idn n (bdP w (t * (2 * w))) d) (h1 : t * (2 * w) + w < n) (h2 : b ≤ t * (2 * w) + 2 * w) (hbn : b ≤ n) :
    SortedIn slt (t * (2 * w)) (t * (2 * w) + w) d ∧ SortedIn slt (t * (2 * w) + w) b d ∧ Asc idn (t * (2 * w)) (t * (2 * w) + w) b d := by
  have e1 : t * (2 * w) = (2 * t) * w := by rw [← Nat.mul_assoc, Nat.mul_comm t 2]
  have e2 : (t + 1) * (2 * w) = t * (2 * w) + 2 * w := Nat.succ_mul _ _
  have e3 : (2 * t + 1) * w = t * (2 * w) + w := by rw [Nat.add_mul, ← e1, Nat.one_mul]
  have e4 : (2 * t + 2) * w = t * (2 * w) + 2 * w := by rw [Nat.add_mul, ← e1]
  have hm : bdP w (t * (2 * w)) (t * (2 * w) + w) := Or.inl ⟨2 * t + 1, e3.symm, by omega⟩
  refine ⟨h.srt _ _ (Or.inr ⟨t, rfl⟩) (fun x x1 x2 x3 => ?_) (by omega), h.srt _ _ hm (fun x x1 x2 x3 => ?_) hbn, fun i j i1 i2 i3 i4 => h.asc _ hm i j (Nat.zero_le _) i2 i3 (by omega)⟩
  · rcases x3 with ⟨k, hk, _⟩ | ⟨k, hk⟩
    · rw [hk] at x1 x2
      exact mul_between (w := w) (k := k) (t := 2 * t) (by omega) (by omega)
    · rw [hk] at x1 x2
      exact mul_between (w := 2 * w) (k := k) (t := t) (by omega) (by rw [e2]; omega)
  · rcases x3 with ⟨k, hk, _⟩ | ⟨k, hk⟩
    · rw [hk] at x1 x2
      exact mul_between (w := w) (k := k) (t := 2 * t + 1) (by omega) (by rw [show 2 * t + 1 + 1 = 2 * t + 2 from rfl]; omega)
    · rw [hk] at x1 x2
      exact mul_between (w := 2 * w) (k := k) (t := t) (by omega) (by rw [e2]; omega)
theorem runs_end {n w : Nat} {d : Array α} (h : Runs slt idn n (bdP w 0) d) (hw : n ≤ w) : SortedIn slt 0 n d := by
  refine h.srt 0 n (bdP_mul.2 ⟨0, by omega⟩) (fun x x1 x2 x3 => ?_) (Nat.le_refl _)
  obtain ⟨k, hk⟩ := bdP_mul.1 x3
  cases k with
  | zero => omega
  | succ k => rw [Nat.succ_mul] at hk; omega
end Go.Proofs.YtmglbegbijofkaaGreatDoor
/- Plain: the greatest spread: no spread has more people than the bound of any price, and the one that gives away by the people reaches the bound of its own price. -/
namespace Go.Proofs.YtmglbegbijofkaaGreatDoor
def zc (zs : List Int) (c : Int) : Int := zs.getD c.toNat 0
theorem zc_bd {zs : List Int} (hz : ∀ z ∈ zs, 0 ≤ z ∧ z ≤ 1000000) (c : Int) : 0 ≤ zc zs c ∧ zc zs c ≤ 1000000 := by
  unfold zc
  rw [List.getD_eq_getElem?_getD]
  cases h : zs[c.toNat]? with
  | none => simp
  | some z => exact hz z (List.mem_of_getElem? h)
def sumF (f : Int → Int) (l : List Int) : Int := (l.map f).sum
theorem sumF_nil (f : Int → Int) : sumF f [] = 0 := rfl
theorem sumF_cons (f : Int → Int) (c : Int) (l : List Int) : sumF f (c :: l) = f c + sumF f l := by simp [sumF]
theorem sumF_snoc (f : Int → Int) (c : Int) (l : List Int) : sumF f (l ++ [c]) = sumF f l + f c := by simp [sumF]
theorem sumF_perm {f : Int → Int} {a b : List Int} (h : a.Perm b) : sumF f a = sumF f b := by
  induction h with
  | nil => rfl
  | cons x _ ih => simp only [sumF_cons, ih]
  | swap x y l => simp only [sumF_cons]; omega
  | trans _ _ i1 i2 => exact i1.trans i2
theorem sumF_nonneg {f : Int → Int} (hf : ∀ c, 0 ≤ f c) : ∀ l, 0 ≤ sumF f l
  | [] => by simp [sumF]
  | c :: l => by have h1 := sumF_nonneg hf l; have h2 := hf c; rw [sumF_cons]; omega
/-- a part of a list without repeats sums to no more -/
theorem sumF_sub {f : Int → Int} (hf : ∀ c, 0 ≤ f c) : ∀ (l L : List Int), l.Nodup → (∀ x ∈ l, x ∈ L) → sumF f l ≤ sumF f L
  | [], L, _, _ => by rw [sumF_nil]; exact sumF_nonneg hf L
  | c :: l, L, hn, hs => by
    have hc : c ∈ L := hs c (by simp)
    have hp := List.perm_cons_erase hc
    rw [sumF_perm hp, sumF_cons, sumF_cons]
    rw [List.nodup_cons] at hn
    have := sumF_sub hf l (L.erase c) hn.2 (fun x hx => (List.mem_erase_of_ne (by rintro rfl; exact hn.1 hx)).2 (hs x (by simp [hx])))
    omega
def bnd (zs : List Int) (cap : Int) (L : List Int) (price : Int) : Int := 1000000 * price + sumF (fun c => cap * max 0 (zc zs c - price)) L
def sumN (ps : List (Int × Int)) : Int := (ps.map fun p => p.2).sum
theorem sumN_cons (p : Int × Int) (ps : List (Int × Int)) : sumN (p :: ps) = p.2 + sumN ps := by simp [sumN]
theorem sumN_snoc (p : Int × Int) (ps : List (Int × Int)) : sumN (ps ++ [p]) = sumN ps + p.2 := by simp [sumN]
theorem sumN_perm {a b : List (Int × Int)} (h : a.Perm b) : sumN a = sumN b := by
  induction h with
  | nil => rfl
  | cons x _ ih => simp only [sumN_cons, ih]
  | swap x y l => simp only [sumN_cons]; omega
  | trans _ _ i1 i2 => exact i1.trans i2
theorem ppl_cons (zs : List Int) (p : Int × Int) (ps : List (Int × Int)) : ppl zs (p :: ps) = p.2 * zc zs p.1 + ppl zs ps := by simp [ppl, zc]
theorem part_le {n z cap p : Int} (h0 : 0 ≤ n) (h1 : n ≤ cap) : n * z ≤ n * p + cap * max 0 (z - p) := by
  by_cases h : 0 ≤ z - p
  · rw [show max 0 (z - p) = z - p by omega]
    have := Int.mul_le_mul_of_nonneg_right h1 h
    rw [Int.mul_sub] at this
    omega
  · rw [show max 0 (z - p) = 0 by omega]
    have := Int.mul_le_mul_of_nonneg_left (show z ≤ p by omega) h0
    omega
/-- the people of a spread are at most what its price and the surplus of its cells make -/
theorem ppl_le (zs : List Int) (cap p : Int) : ∀ (ps : List (Int × Int)), (∀ q ∈ ps, 0 ≤ q.2 ∧ q.2 ≤ cap) → ppl zs ps ≤ sumN ps * p + sumF (fun c => cap * max 0 (zc zs c - p)) (ps.map Prod.fst)
  | [], _ => by simp [ppl, sumN, sumF]
  | q :: ps, h => by
    have ih := ppl_le zs cap p ps (fun x hx => h x (by simp [hx]))
    have hq := h q (by simp)
    have := part_le (z := zc zs q.1) (p := p) hq.1 hq.2
    rw [ppl_cons, sumN_cons, List.map_cons, sumF_cons, Int.add_mul]
    omega
/-- a spread of the cells L by a law -/
structure Feas (cap : Int) (L : List Int) (ps : List (Int × Int)) : Prop where
  cap0 : 0 ≤ cap
  part : ∀ q ∈ ps, 0 ≤ q.2 ∧ q.2 ≤ cap
  nodup : (ps.map Prod.fst).Nodup
  sub : ∀ c ∈ ps.map Prod.fst, c ∈ L
  sum : sumN ps ≤ 1000000
theorem surplus_nonneg {zs : List Int} {cap p : Int} (h : 0 ≤ cap) (c : Int) : 0 ≤ cap * max 0 (zc zs c - p) := Int.mul_nonneg h (by omega)
theorem feas_le {zs : List Int} {cap : Int} {L : List Int} {ps : List (Int × Int)} (h : Feas cap L ps) {p : Int} (hp : 0 ≤ p) : ppl zs ps ≤ bnd zs cap L p := by
  have h1 := ppl_le zs cap p ps h.part
  have h2 := sumF_sub (f := fun c => cap * max 0 (zc zs c - p)) (surplus_nonneg h.cap0) (ps.map Prod.fst) L h.nodup h.sub
  have h3 := Int.mul_le_mul_of_nonneg_right h.sum hp
  unfold bnd
  omega
/-- what giving away by the people comes to -/
structure GvInv (zs : List Int) (cap : Int) (T : List Int) (st : List (Int × Int) × Int × Int) : Prop where
  l0 : 0 ≤ st.2.1
  sum : sumN st.1 + st.2.1 = 1000000
  full : 0 < st.2.1 → st.1 = T.map fun c => (c, cap)
  part : ∀ q ∈ st.1, 1 ≤ q.2 ∧ q.2 ≤ cap
  pre : ∃ R, T = st.1.map Prod.fst ++ R
  opt : st.2.1 = 0 → ppl zs st.1 = bnd zs cap T st.2.2
  last : st.2.1 = 0 → ∃ c ∈ T, st.2.2 = zc zs c
  last2 : st.2.1 = 0 → T ≠ [] → (∀ c ∈ st.1.map Prod.fst, st.2.2 ≤ zc zs c)
theorem ppl_full (zs : List Int) (cap : Int) : ∀ T : List Int, ppl zs (T.map fun c => (c, cap)) = sumF (fun c => cap * zc zs c) T
  | [] => rfl
  | c :: T => by rw [List.map_cons, ppl_cons, sumF_cons, ppl_full zs cap T]
theorem sumN_full (cap : Int) : ∀ T : List Int, sumN (T.map fun c => (c, cap)) = T.length * cap
  | [] => by simp [sumN]
  | c :: T => by rw [List.map_cons, sumN_cons, sumN_full cap T, List.length_cons]; push_cast; rw [Int.add_mul]; omega
theorem surplus_full (zs : List Int) (cap p : Int) : ∀ T : List Int, (∀ c ∈ T, p ≤ zc zs c) → sumF (fun c => cap * max 0 (zc zs c - p)) T = sumF (fun c => cap * zc zs c) T - T.length * cap * p
  | [], _ => by simp [sumF]
  | c :: T, h => by
    have ih := surplus_full zs cap p T (fun x hx => h x (by simp [hx]))
    have hc := h c (by simp)
    rw [sumF_cons, sumF_cons, ih, List.length_cons, show max 0 (zc zs c - p) = zc zs c - p by omega, Int.mul_sub]
    push_cast
    rw [Int.add_mul, Int.add_mul, Int.one_mul]
    omega
theorem gvStep_inv {zs : List Int} {cap : Int} (h1 : 1 ≤ cap) {T : List Int} {c : Int} {st : List (Int × Int) × Int × Int} (h : GvInv zs cap T st) (hs : ∀ x ∈ T, zc zs c ≤ zc zs x) : GvInv zs cap (T ++ [c]) (gvStep zs cap st c) := by
  obtain ⟨ps, left, price⟩ := st
  obtain ⟨l0, sm, full, part, ⟨R, pre⟩, opt, last, last2⟩ := h
  simp only at l0 sm full part pre opt last last2
  unfold gvStep
  by_cases hl : 0 < left
  · have hn : 0 < min left cap := by omega
    simp only [hn, if_true]
    have hps := full hl
    have hz : zs.getD c.toNat 0 = zc zs c := rfl
    refine ⟨by simp only; omega, by simp only; rw [sumN_snoc]; simp only; omega, fun hl2 => ?_, fun q hq => ?_, ⟨[], ?_⟩, fun hl2 => ?_, fun _ => ⟨c, by simp, hz⟩, fun _ _ x hx => ?_⟩
    · simp only at hl2 ⊢
      rw [hps, List.map_append, List.map_singleton, show min left cap = cap by omega]
    · simp only [List.mem_append, List.mem_singleton] at hq
      rcases hq with hq | rfl
      · exact part q hq
      · exact ⟨by simp only; omega, by simp only; omega⟩
    · simp only
      rw [hps]
      simp [List.map_map, Function.comp_def]
    · simp only at hl2 ⊢
      have hml : min left cap = left := by omega
      rw [hml, hz, ppl_snoc, hps, ppl_full]
      simp only
      unfold bnd
      rw [sumF_snoc, surplus_full zs cap _ T hs, show max 0 (zc zs c - zc zs c) = 0 by omega, Int.mul_zero]
      rw [hps, sumN_full] at sm
      have e : left * zc zs c + T.length * cap * zc zs c = 1000000 * zc zs c := by rw [← Int.add_mul, Int.add_comm, sm]
      have hz' : zs.getD c.toNat 0 = zc zs c := rfl
      rw [hz']
      omega
    · simp only [List.map_append, List.map_cons, List.map_nil, List.mem_append, List.mem_singleton] at hx
      simp only
      rw [hz]
      rcases hx with hx | rfl
      · refine hs x ?_
        rw [pre]
        exact List.mem_append_left _ hx
      · exact Int.le_refl _
  · have hl0 : left = 0 := by omega
    subst hl0
    have hn : ¬ (0 < min 0 cap) := by omega
    simp only [hn, if_false]
    obtain ⟨x, hx, hpx⟩ := last rfl
    refine ⟨by simp only; omega, by simp only; omega, fun hl2 => ?_, part, ⟨R ++ [c], by simp only; rw [pre]; simp⟩, fun _ => ?_, fun _ => ⟨x, by simp [hx], hpx⟩, fun _ _ => last2 rfl (by rintro rfl; simp at hx)⟩
    · simp only at hl2; omega
    · simp only
      rw [opt rfl]
      unfold bnd
      have := hs x hx
      rw [sumF_snoc, show max 0 (zc zs c - price) = 0 by omega, Int.mul_zero]
      omega
theorem gv_inv {zs : List Int} {cap : Int} (h1 : 1 ≤ cap) (S : List Int) (hS : S.Pairwise fun a b => zc zs b ≤ zc zs a) : GvInv zs cap S (gv zs cap S) := by
  have : ∀ k, k ≤ S.length → GvInv zs cap (S.take k) (gv zs cap (S.take k)) := fun k => by
    induction k with
    | zero =>
      intro _
      simp only [List.take_zero, gv_nil]
      exact ⟨by simp, by simp [sumN], fun _ => rfl, fun q hq => by simp at hq, ⟨[], rfl⟩, fun h => by simp at h, fun h => by simp at h, fun h => by simp at h⟩
    | succ k ih =>
      intro hk
      rw [List.take_succ_eq_append_getElem (by omega), gv_snoc]
      refine gvStep_inv h1 (ih (by omega)) (fun x hx => ?_)
      obtain ⟨i, hi, rfl⟩ := List.getElem_of_mem hx
      rw [List.getElem_take]
      rw [List.length_take] at hi
      exact (List.pairwise_iff_getElem.1 hS) i k (by omega) (by omega) (by omega)
  have h := this S.length (Nat.le_refl _)
  rwa [List.take_length] at h
/-- the price that Most hands back -/
def gvPrice (st : List (Int × Int) × Int × Int) : Int := if 0 < st.2.1 then 0 else st.2.2
theorem gv_bnd {zs : List Int} (hz : ∀ z ∈ zs, 0 ≤ z ∧ z ≤ 1000000) {cap : Int} (h1 : 1 ≤ cap) (S : List Int) (hS : S.Pairwise fun a b => zc zs b ≤ zc zs a) : ppl zs (gv zs cap S).1 = bnd zs cap S (gvPrice (gv zs cap S)) := by
  have h := gv_inv h1 S hS
  unfold gvPrice
  split
  · rename_i hl
    rw [h.full hl, ppl_full]
    unfold bnd
    rw [surplus_full zs cap 0 S (fun c _ => (zc_bd hz c).1)]
    omega
  · exact h.opt (by have := h.l0; omega)
theorem gvPrice_bd {zs : List Int} (hz : ∀ z ∈ zs, 0 ≤ z ∧ z ≤ 1000000) {cap : Int} (h1 : 1 ≤ cap) (S : List Int) (hS : S.Pairwise fun a b => zc zs b ≤ zc zs a) : 0 ≤ gvPrice (gv zs cap S) ∧ gvPrice (gv zs cap S) ≤ 1000000 := by
  have h := gv_inv h1 S hS
  unfold gvPrice
  split
  · omega
  · obtain ⟨c, _, hc⟩ := h.last (by have := h.l0; omega)
    rw [hc]
    exact zc_bd hz c
theorem gv_feas {zs : List Int} {cap : Int} (h1 : 1 ≤ cap) (S : List Int) (hS : S.Pairwise fun a b => zc zs b ≤ zc zs a) (hn : S.Nodup) : Feas cap S (gv zs cap S).1 := by
  have h := gv_inv h1 S hS
  obtain ⟨R, hR⟩ := h.pre
  refine ⟨by omega, fun q hq => ⟨by have := h.part q hq; omega, (h.part q hq).2⟩, ?_, fun c hc => ?_, by have := h.l0; have := h.sum; omega⟩
  · have hn2 : ((gv zs cap S).1.map Prod.fst ++ R).Nodup := by rw [← hR]; exact hn
    exact (List.nodup_append.1 hn2).1
  · rw [hR]; exact List.mem_append_left _ hc
/-- the spread by the people has the most -/
theorem gv_most {zs : List Int} (hz : ∀ z ∈ zs, 0 ≤ z ∧ z ≤ 1000000) {cap : Int} (h1 : 1 ≤ cap) {S L : List Int} (hS : S.Pairwise fun a b => zc zs b ≤ zc zs a) (hp : S.Perm L) {ps : List (Int × Int)} (h : Feas cap L ps) : ppl zs ps ≤ ppl zs (gv zs cap S).1 := by
  rw [gv_bnd hz h1 S hS]
  have := feas_le (zs := zs) h (gvPrice_bd hz h1 S hS).1
  unfold bnd at *
  rw [sumF_perm hp]
  exact this
end Go.Proofs.YtmglbegbijofkaaGreatDoor
/- Plain: the reference's way to the greatest spread: the fullest cell that has nothing yet, again and again, is the way of the stable sort. -/
namespace Go.Proofs.YtmglbegbijofkaaGreatDoor
/-- the order of the stable sort: more people first; of as many, the lower cell -/
def ltS (zs : List Int) (a b : Int) : Prop := zc zs b < zc zs a ∨ (zc zs a = zc zs b ∧ a < b)
theorem ltS_le {zs : List Int} {a b : Int} (h : ltS zs a b) : zc zs b ≤ zc zs a := by unfold ltS at h; omega
theorem ltS_irrefl {zs : List Int} {a : Int} (h : ltS zs a a) : False := by unfold ltS at h; omega
theorem ltS_nodup {zs S : List Int} (h : S.Pairwise (ltS zs)) : S.Nodup := h.imp (fun hab => by rintro rfl; exact ltS_irrefl hab)
def gvn (g : List Int) (c : Int) : Int := g.getD c.toNat 0
def fullStep (zs g : List Int) (out x : Int) : Int := if gvn g x = 0 ∧ (out < 0 ∨ zc zs out < zc zs x) then x else out
def fullF (zs g : List Int) (L : List Int) : Int := L.foldl (fullStep zs g) (-1)
theorem fullF_snoc (zs g : List Int) (L : List Int) (x : Int) : fullF zs g (L ++ [x]) = fullStep zs g (fullF zs g L) x := by simp [fullF]
/-- the first of the fullest cells that have nothing yet -/
def Best (zs g : List Int) (T : List Int) (r : Int) : Prop :=
  (r = -1 ∧ ∀ y ∈ T, gvn g y ≠ 0) ∨ (r ∈ T ∧ gvn g r = 0 ∧ ∀ y ∈ T, gvn g y = 0 → y = r ∨ ltS zs r y)
theorem full_best (zs g : List Int) (L : List Int) (h0 : ∀ x ∈ L, 0 ≤ x) (hL : L.Pairwise (· < ·)) : Best zs g L (fullF zs g L) := by
  have : ∀ k, k ≤ L.length → Best zs g (L.take k) (fullF zs g (L.take k)) := fun k => by
    induction k with
    | zero => intro _; exact Or.inl ⟨rfl, fun y hy => by simp at hy⟩
    | succ k ih =>
      intro hk
      have hlt : k < L.length := by omega
      have ih := ih (by omega)
      have hx0 := h0 L[k] (List.getElem_mem hlt)
      have hpos : ∀ y ∈ L.take k, 0 ≤ y := fun y hy => h0 y (List.mem_of_mem_take hy)
      have hasc : ∀ y ∈ L.take k, y < L[k] := fun y hy => by
        obtain ⟨i, hi, rfl⟩ := List.getElem_of_mem hy
        rw [List.length_take] at hi
        rw [List.getElem_take]
        exact (List.pairwise_iff_getElem.1 hL) i k (by omega) hlt (by omega)
      rw [List.take_succ_eq_append_getElem hlt, fullF_snoc]
      generalize L[k] = x at *
      generalize L.take k = T at *
      generalize fullF zs g T = r at *
      unfold fullStep
      rcases ih with ⟨rfl, hn⟩ | ⟨hr, hg, hb⟩
      · by_cases hx : gvn g x = 0
        · rw [if_pos ⟨hx, Or.inl (by omega)⟩]
          refine Or.inr ⟨by simp, hx, fun y hy hy0 => ?_⟩
          simp only [List.mem_append, List.mem_singleton] at hy
          rcases hy with hy | rfl
          · exact absurd hy0 (hn y hy)
          · exact Or.inl rfl
        · rw [if_neg (fun h => hx h.1)]
          refine Or.inl ⟨rfl, fun y hy => ?_⟩
          simp only [List.mem_append, List.mem_singleton] at hy
          rcases hy with hy | rfl
          · exact hn y hy
          · exact hx
      · have hr0 := hpos r hr
        by_cases hc : gvn g x = 0 ∧ (r < 0 ∨ zc zs r < zc zs x)
        · rw [if_pos hc]
          have hz1 : zc zs r < zc zs x := by
            have := hc.2
            omega
          refine Or.inr ⟨by simp, hc.1, fun y hy hy0 => ?_⟩
          simp only [List.mem_append, List.mem_singleton] at hy
          rcases hy with hy | rfl
          · rcases hb y hy hy0 with rfl | h
            · exact Or.inr (Or.inl hz1)
            · have := ltS_le h
              exact Or.inr (Or.inl (by omega))
          · exact Or.inl rfl
        · rw [if_neg hc]
          refine Or.inr ⟨by simp [hr], hg, fun y hy hy0 => ?_⟩
          simp only [List.mem_append, List.mem_singleton] at hy
          rcases hy with hy | rfl
          · exact hb y hy hy0
          · have : ¬ (r < 0 ∨ zc zs r < zc zs y) := fun h => hc ⟨hy0, h⟩
            have h3 := hasc r hr
            refine Or.inr ?_
            unfold ltS
            omega
  have h := this L.length (Nat.le_refl _)
  rwa [List.take_length] at h
theorem ltS_asymm {zs : List Int} {a b : Int} (h1 : ltS zs a b) (h2 : ltS zs b a) : False := by unfold ltS at *; omega
/-- the next one of the stable sort -/
theorem full_next {zs g L S : List Int} (h0 : ∀ x ∈ L, 0 ≤ x) (hL : L.Pairwise (· < ·)) (hp : S.Perm L) (hS : S.Pairwise (ltS zs)) {k : Nat} (hk : k < S.length) (hg : ∀ x ∈ L, gvn g x = 0 ↔ x ∉ S.take k) : fullF zs g L = S[k] := by
  have hin : S[k] ∈ L := hp.mem_iff.1 (List.getElem_mem hk)
  have hnt : S[k] ∉ S.take k := fun h => by
    obtain ⟨i, hi, he⟩ := List.getElem_of_mem h
    rw [List.length_take] at hi
    rw [List.getElem_take] at he
    have := (List.pairwise_iff_getElem.1 hS) i k (by omega) hk (by omega)
    rw [he] at this
    exact ltS_irrefl this
  rcases full_best zs g L h0 hL with ⟨_, hn⟩ | ⟨hr, hr0, hb⟩
  · exact absurd ((hg _ hin).2 hnt) (hn _ hin)
  · rcases hb _ hin ((hg _ hin).2 hnt) with h | h
    · exact h.symm
    · exfalso
      have hnr := (hg _ hr).1 hr0
      obtain ⟨i, hi, he⟩ := List.getElem_of_mem (hp.mem_iff.2 hr)
      have hki : k ≤ i := by
        by_cases hik : i < k
        · refine absurd ?_ hnr
          rw [← he]
          have : S[i] = (S.take k)[i]'(by rw [List.length_take]; omega) := by rw [List.getElem_take]
          rw [this]
          exact List.getElem_mem _
        · omega
      rw [← he] at h
      by_cases e : k = i
      · subst e; exact ltS_irrefl h
      · exact ltS_asymm h ((List.pairwise_iff_getElem.1 hS) k i hk hi (by omega))
theorem full_none {zs g L S : List Int} (h0 : ∀ x ∈ L, 0 ≤ x) (hL : L.Pairwise (· < ·)) (hp : S.Perm L) (hg : ∀ x ∈ L, gvn g x = 0 ↔ x ∉ S) : fullF zs g L = -1 := by
  rcases full_best zs g L h0 hL with ⟨h, _⟩ | ⟨hr, hr0, hb⟩
  · exact h
  · exact absurd (hp.mem_iff.2 hr) ((hg _ hr).1 hr0)
/-- what is given, cell by cell -/
def givL (n : Nat) (ps : List (Int × Int)) : List Int := ps.foldl (fun g p => g.set p.1.toNat p.2) (List.replicate n 0)
theorem givL_snoc (n : Nat) (ps : List (Int × Int)) (p : Int × Int) : givL n (ps ++ [p]) = (givL n ps).set p.1.toNat p.2 := by simp [givL]
theorem ps_ind {P : List (Int × Int) → Prop} (h0 : P []) (h1 : ∀ l c, P l → P (l ++ [c])) : ∀ l, P l := fun l => by
  have : ∀ r : List (Int × Int), P r.reverse := fun r => by
    induction r with
    | nil => exact h0
    | cons c r ih => rw [List.reverse_cons]; exact h1 _ _ ih
  have h := this l.reverse
  rwa [List.reverse_reverse] at h
theorem givL_length (n : Nat) (ps : List (Int × Int)) : (givL n ps).length = n := by
  induction ps using ps_ind with
  | h0 => simp [givL]
  | h1 l c ih => rw [givL_snoc, List.length_set, ih]
theorem gvn_set (g : List Int) (c : Int) (v : Int) (x : Int) (hc : 0 ≤ c) (hcl : c < g.length) (hx : 0 ≤ x) : gvn (g.set c.toNat v) x = if x = c then v else gvn g x := by
  unfold gvn
  rw [List.getD_eq_getElem?_getD, List.getD_eq_getElem?_getD, List.getElem?_set]
  by_cases h : x = c
  · subst h; rw [if_pos rfl, if_pos (by omega), if_pos rfl]; rfl
  · rw [if_neg (by omega), if_neg h]
theorem givL_get (n : Nat) (ps : List (Int × Int)) (hn : (ps.map Prod.fst).Nodup) (hc : ∀ p ∈ ps, 0 ≤ p.1 ∧ p.1 < n) (x : Int) (hx : 0 ≤ x) : (∀ v, (x, v) ∈ ps → gvn (givL n ps) x = v) ∧ (x ∉ ps.map Prod.fst → gvn (givL n ps) x = 0) := by
  induction ps using ps_ind with
  | h0 => refine ⟨fun v h => by simp at h, fun _ => ?_⟩
          unfold gvn givL
          rw [List.getD_eq_getElem?_getD]
          simp only [List.foldl_nil, List.getElem?_replicate]
          split <;> rfl
  | h1 l p ih =>
    rw [List.map_append, List.nodup_append] at hn
    obtain ⟨i1, i2⟩ := ih hn.1 (fun q hq => hc q (by simp [hq]))
    obtain ⟨p0, p1⟩ := hc p (by simp)
    rw [givL_snoc, gvn_set _ _ _ _ p0 (by rw [givL_length]; exact p1) hx]
    refine ⟨fun v h => ?_, fun h => ?_⟩
    · simp only [List.mem_append, List.mem_singleton] at h
      rcases h with h | h
      · rw [if_neg, i1 v h]
        rintro rfl
        exact hn.2.2 p.1 (List.mem_map.2 ⟨_, h, rfl⟩) p.1 (by simp) rfl
      · subst h; rw [if_pos rfl]
    · simp only [List.map_append, List.mem_append, not_or] at h
      rw [if_neg (by intro e; exact h.2 (by simp [e])), i2 h.1]
/-- the parts that are given, by their cells -/
def partsOf (g : List Int) (k : Nat) : List (Int × Int) := (List.range k).filterMap fun (i : Nat) => if 0 < gvn g i then some ((i : Int), gvn g i) else none
theorem partsOf_succ (g : List Int) (k : Nat) : partsOf g (k + 1) = partsOf g k ++ (if 0 < gvn g k then [((k : Int), gvn g k)] else []) := by
  unfold partsOf
  rw [List.range_succ, List.filterMap_append]
  congr 1
  simp only [List.filterMap_cons, List.filterMap_nil]
  split <;> rename_i h
  · split at h
    · cases h
    · rename_i h2; rw [if_neg h2]
  · split at h
    · rename_i h2; simp only [Option.some.injEq] at h; rw [if_pos h2, ← h]
    · cases h
theorem partsOf_mem (g : List Int) (k : Nat) (q : Int × Int) : q ∈ partsOf g k ↔ 0 ≤ q.1 ∧ q.1 < k ∧ q.2 = gvn g q.1 ∧ 0 < q.2 := by
  induction k with
  | zero => simp [partsOf]; omega
  | succ k ih =>
    rw [partsOf_succ, List.mem_append, ih]
    constructor
    · rintro (h | h)
      · exact ⟨h.1, by omega, h.2.2⟩
      · split at h
        · rename_i h2
          simp only [List.mem_singleton] at h
          subst h
          exact ⟨by simp only; omega, by simp only; omega, rfl, h2⟩
        · simp at h
    · rintro ⟨h1, h2, h3, h4⟩
      by_cases e : q.1 = k
      · refine Or.inr ?_
        rw [e] at h3
        rw [if_pos (by omega), List.mem_singleton]
        exact Prod.ext e h3
      · exact Or.inl ⟨h1, by omega, h3, h4⟩
theorem partsOf_sorted (g : List Int) (k : Nat) : (partsOf g k).Pairwise fun a b => a.1 < b.1 := by
  induction k with
  | zero => simp [partsOf]
  | succ k ih =>
    rw [partsOf_succ, List.pairwise_append]
    refine ⟨ih, ?_, fun a ha b hb => ?_⟩
    · split <;> simp
    · split at hb
      · simp only [List.mem_singleton] at hb
        subst hb
        exact ((partsOf_mem g k a).1 ha).2.1
      · simp at hb
theorem sorted_ext : ∀ (a b : List (Int × Int)), a.Pairwise (fun x y => x.1 < y.1) → b.Pairwise (fun x y => x.1 < y.1) → (∀ x, x ∈ a ↔ x ∈ b) → a = b
  | [], [], _, _, _ => rfl
  | [], y :: b, _, _, h => by have := (h y).2 (by simp); simp at this
  | x :: a, [], _, _, h => by have := (h x).1 (by simp); simp at this
  | x :: a, y :: b, ha, hb, h => by
    rw [List.pairwise_cons] at ha hb
    have e : x = y := by
      rcases List.mem_cons.1 ((h x).1 (by simp)) with h1 | h1
      · exact h1
      · rcases List.mem_cons.1 ((h y).2 (by simp)) with h2 | h2
        · exact h2.symm
        · have := hb.1 x h1
          have := ha.1 y h2
          omega
    subst e
    rw [sorted_ext a b ha.2 hb.2 (fun z => ?_)]
    have hz := h z
    simp only [List.mem_cons] at hz
    constructor
    · intro hm
      rcases hz.1 (Or.inr hm) with rfl | h1
      · have := ha.1 z hm; omega
      · exact h1
    · intro hm
      rcases hz.2 (Or.inr hm) with rfl | h1
      · have := hb.1 z hm; omega
      · exact h1
/-- the parts that the reference lists are those of the sort by cells -/
theorem parts_eq {n : Nat} {ps qs : List (Int × Int)} (hn : (ps.map Prod.fst).Nodup) (hc : ∀ p ∈ ps, 0 ≤ p.1 ∧ p.1 < n ∧ 1 ≤ p.2) (hp : qs.Perm ps) (hq : qs.Pairwise (fun x y => x.1 ≤ y.1)) : partsOf (givL n ps) n = qs := by
  have hqn : (qs.map Prod.fst).Nodup := (hp.map Prod.fst).nodup_iff.2 hn
  refine sorted_ext _ _ (partsOf_sorted _ _) ?_ (fun x => ?_)
  · have h2 : qs.Pairwise (fun x y => x.1 ≠ y.1) := by
      unfold List.Nodup at hqn
      rw [List.pairwise_map] at hqn
      exact hqn
    exact (hq.and h2).imp (fun h => by omega)
  · rw [partsOf_mem, hp.mem_iff]
    constructor
    · rintro ⟨h1, h2, h3, h4⟩
      by_cases hx : x.1 ∈ ps.map Prod.fst
      · obtain ⟨p, hpm, he⟩ := List.mem_map.1 hx
        have := (givL_get n ps hn (fun p hp => ⟨(hc p hp).1, (hc p hp).2.1⟩) x.1 h1).1 p.2 (by rw [← he]; exact hpm)
        rw [this] at h3
        have : x = p := Prod.ext he.symm h3
        rw [this]; exact hpm
      · have := (givL_get n ps hn (fun p hp => ⟨(hc p hp).1, (hc p hp).2.1⟩) x.1 h1).2 hx
        omega
    · intro h
      obtain ⟨h1, h2, h3⟩ := hc x h
      refine ⟨h1, h2, ?_, by omega⟩
      exact ((givL_get n ps hn (fun p hp => ⟨(hc p hp).1, (hc p hp).2.1⟩) x.1 h1).1 x.2 h).symm
/-- where nothing is left, nothing more is given -/
theorem gv_stop {zs : List Int} {cap : Int} (hcap : 0 ≤ cap) {S : List Int} {k : Nat} (h : (gv zs cap (S.take k)).2.1 = 0) : gv zs cap S = gv zs cap (S.take k) := by
  have hs : ∀ (R : List Int) (st : List (Int × Int) × Int × Int), st.2.1 = 0 → R.foldl (gvStep zs cap) st = st := fun R => by
    induction R with
    | nil => intro st _; rfl
    | cons c R ih =>
      intro st h
      have e : gvStep zs cap st c = st := by
        obtain ⟨ps, left, price⟩ := st
        simp only at h
        subst h
        unfold gvStep
        simp only
        rw [if_neg (by omega), show min 0 cap = 0 by omega]
        rfl
      rw [List.foldl_cons, e]; exact ih st h
  have e : S = S.take k ++ S.drop k := (List.take_append_drop k S).symm
  unfold gv at *
  conv => lhs; rw [e]
  rw [List.foldl_append]
  exact hs _ _ h
end Go.Proofs.YtmglbegbijofkaaGreatDoor
/- Plain: when there is a spread at all; more people, a greater Cap, more cells; what Prove checks. -/
namespace Go.Proofs.YtmglbegbijofkaaGreatDoor
theorem sumN_le {cap : Int} : ∀ (ps : List (Int × Int)), (∀ q ∈ ps, q.2 ≤ cap) → sumN ps ≤ ps.length * cap
  | [], _ => by simp [sumN]
  | p :: ps, h => by
    have ih := sumN_le ps (fun q hq => h q (by simp [hq]))
    have := h p (by simp)
    rw [sumN_cons, List.length_cons]
    push_cast
    rw [Int.add_mul]
    omega
theorem sumF_const (k : Int) : ∀ l : List Int, sumF (fun _ => k) l = l.length * k
  | [] => by simp [sumF]
  | c :: l => by
    rw [sumF_cons, sumF_const k l, List.length_cons]
    push_cast
    rw [Int.add_mul]
    omega
theorem gv_left {zs : List Int} {cap : Int} (h1 : 1 ≤ cap) (S : List Int) (hS : S.Pairwise fun a b => zc zs b ≤ zc zs a) : 0 < (gv zs cap S).2.1 ↔ (S.length : Int) * cap < 1000000 := by
  have h := gv_inv h1 S hS
  have s := h.sum
  constructor
  · intro hl
    have e := h.full hl
    rw [e, sumN_full] at s
    omega
  · intro hl
    by_cases h0 : 0 < (gv zs cap S).2.1
    · exact h0
    · exfalso
      have l0 := h.l0
      have le := sumN_le (cap := cap) (gv zs cap S).1 (fun q hq => (h.part q hq).2)
      obtain ⟨R, hR⟩ := h.pre
      have hlen : (gv zs cap S).1.length ≤ S.length := by
        have := congrArg List.length hR
        simp at this
        omega
      have := Int.mul_le_mul_of_nonneg_right (c := cap) (show (((gv zs cap S).1.length : Nat) : Int) ≤ (S.length : Int) by omega) (by omega)
      omega
theorem ppl_mono {zs zs' : List Int} (h : ∀ c, zc zs c ≤ zc zs' c) : ∀ (ps : List (Int × Int)), (∀ q ∈ ps, 0 ≤ q.2) → ppl zs ps ≤ ppl zs' ps
  | [], _ => by simp [ppl]
  | p :: ps, hp => by
    have ih := ppl_mono h ps (fun q hq => hp q (by simp [hq]))
    have := Int.mul_le_mul_of_nonneg_left (h p.1) (hp p (by simp))
    rw [ppl_cons, ppl_cons]
    omega
theorem feas_cap {cap cap' : Int} {L : List Int} {ps : List (Int × Int)} (h : Feas cap L ps) (hc : cap ≤ cap') : Feas cap' L ps :=
  ⟨by have := h.cap0; omega, fun q hq => ⟨(h.part q hq).1, by have := (h.part q hq).2; omega⟩, h.nodup, h.sub, h.sum⟩
theorem feas_more {cap : Int} {L L' : List Int} {ps : List (Int × Int)} (h : Feas cap L ps) (hl : ∀ c ∈ L, c ∈ L') : Feas cap L' ps :=
  ⟨h.cap0, h.part, h.nodup, fun c hc => hl c (h.sub c hc), h.sum⟩
/-- the greatest one is not fewer where a spread of the first is one of the second -/
theorem gv_mono {zs zs' : List Int} (hz' : ∀ z ∈ zs', 0 ≤ z ∧ z ≤ 1000000) (hzz : ∀ c, zc zs c ≤ zc zs' c) {cap cap' : Int} (h1 : 1 ≤ cap) (hc : cap ≤ cap') {S L S' L' : List Int}
    (hS : S.Pairwise fun a b => zc zs b ≤ zc zs a) (hn : S.Nodup) (hp : S.Perm L) (hS' : S'.Pairwise fun a b => zc zs' b ≤ zc zs' a) (hp' : S'.Perm L') (hl : ∀ c ∈ L, c ∈ L') :
    ppl zs (gv zs cap S).1 ≤ ppl zs' (gv zs' cap' S').1 := by
  have hf := gv_feas h1 S hS hn
  have hf2 : Feas cap' L' (gv zs cap S).1 := feas_cap (feas_more hf (fun c hcc => hl c (hp.mem_iff.1 hcc))) hc
  exact Int.le_trans (ppl_mono hzz _ (fun q hq => (hf.part q hq).1)) (gv_most hz' (by omega) hS' hp' hf2)
theorem nodup_len {L L' : List Int} (hn : L.Nodup) (hl : ∀ c ∈ L, c ∈ L') : L.length ≤ L'.length := by
  have := sumF_sub (f := fun _ => 1) (fun _ => by omega) L L' hn hl
  rw [sumF_const, sumF_const] at this
  omega
/-- there is a spread where there was one -/
theorem left_mono {zs zs' : List Int} {cap cap' : Int} (h1 : 1 ≤ cap) (hc : cap ≤ cap') {S S' : List Int} (hS : S.Pairwise fun a b => zc zs b ≤ zc zs a) (hS' : S'.Pairwise fun a b => zc zs' b ≤ zc zs' a) (hl : S.length ≤ S'.length)
    {more more' : Bool} (hm : more = true → more' = true) (h : ¬ (0 < (gv zs cap S).2.1 ∧ more = false)) : ¬ (0 < (gv zs' cap' S').2.1 ∧ more' = false) := by
  rintro ⟨h2, h3⟩
  rw [gv_left (by omega) S' hS'] at h2
  rw [gv_left h1 S hS] at h
  have e1 := Int.mul_le_mul_of_nonneg_left hc (show (0 : Int) ≤ (S.length : Int) by omega)
  have e2 := Int.mul_le_mul_of_nonneg_right (c := cap') (show ((S.length : Nat) : Int) ≤ (S'.length : Int) by omega) (by omega)
  refine h ⟨by omega, ?_⟩
  cases more with
  | false => rfl
  | true => rw [hm rfl] at h3; cases h3
/-- parts that are listed beside the cells -/
theorem zip_feas {cap : Int} (h0 : 0 ≤ cap) {L pl : List Int} (hlen : pl.length = L.length) (hn : L.Nodup) (hp : ∀ x ∈ pl, 0 ≤ x ∧ x ≤ cap) (hs : pl.sum ≤ 1000000) : Feas cap L (L.zip pl) := by
  have e1 : (L.zip pl).map Prod.fst = L := List.map_fst_zip (by omega)
  have e2 : (L.zip pl).map Prod.snd = pl := List.map_snd_zip (by omega)
  refine ⟨h0, fun q hq => hp q.2 ?_, by rw [e1]; exact hn, fun c hc => by rw [e1] at hc; exact hc, ?_⟩
  · rw [← e2]; exact List.mem_map_of_mem hq
  · have : sumN (L.zip pl) = pl.sum := by unfold sumN; rw [show (fun p : Int × Int => p.2) = Prod.snd from rfl, e2]
    omega
/-! what Prove checks -/
def argBad (L : List Int) : Int → List (Int × Int) → Bool
  | _, [] => false
  | b, p :: ps => !L.contains p.1 || decide (p.1 ≤ b) || argBad L p.1 ps
theorem argBad_false {L : List Int} : ∀ (ps : List (Int × Int)) (b : Int), argBad L b ps = false ↔ (∀ p ∈ ps, p.1 ∈ L ∧ b < p.1) ∧ ps.Pairwise (fun x y => x.1 < y.1)
  | [], b => by simp [argBad]
  | p :: ps, b => by
    have ih := argBad_false (L := L) ps p.1
    have hc : (!L.contains p.1) = false ↔ p.1 ∈ L := by simp
    simp only [argBad, Bool.or_eq_false_iff, hc, decide_eq_false_iff_not, ih, List.pairwise_cons, List.mem_cons, forall_eq_or_imp]
    constructor
    · rintro ⟨⟨h1, h2⟩, h3, h4⟩
      exact ⟨⟨⟨h1, by omega⟩, fun q hq => ⟨(h3 q hq).1, by have := (h3 q hq).2; omega⟩⟩, fun q hq => (h3 q hq).2, h4⟩
    · rintro ⟨⟨⟨h1, h2⟩, h3⟩, h4, h5⟩
      exact ⟨⟨h1, by omega⟩, fun q hq => ⟨(h3 q hq).1, h4 q hq⟩, h5⟩
def capBad (cap : Int) (ps : List (Int × Int)) : Bool := ps.any fun p => outB p.2 1 cap
theorem capBad_false {cap : Int} {ps : List (Int × Int)} : capBad cap ps = false ↔ ∀ p ∈ ps, 1 ≤ p.2 ∧ p.2 ≤ cap := by
  unfold capBad
  rw [List.any_eq_false]
  constructor
  · intro h p hp
    exact outB_false.1 (by simpa using h p hp)
  · intro h p hp
    rw [outB_false.2 (h p hp)]; simp
def outBad (more : Bool) (out price : Int) : Bool := outB out 0 1000000 || (decide (0 < out) && !more) || outB price 0 1000000
def sprE (L : List Int) (more : Bool) (cap : Int) (ps : List (Int × Int)) (out price : Int) : Int :=
  if argBad L (-1) ps then 2 else if outBad more out price then 2 else if capBad cap ps then 140 else if out + sumN ps = 1000000 then 0 else 141
structure SprOK (L : List Int) (more : Bool) (cap : Int) (ps : List (Int × Int)) (out price : Int) : Prop where
  cell : ∀ p ∈ ps, p.1 ∈ L ∧ -1 < p.1
  asc : ps.Pairwise fun x y => x.1 < y.1
  o0 : 0 ≤ out
  o1 : out ≤ 1000000
  om : 0 < out → more = true
  p0 : 0 ≤ price
  p1 : price ≤ 1000000
  part : ∀ p ∈ ps, 1 ≤ p.2 ∧ p.2 ≤ cap
  sum : out + sumN ps = 1000000
theorem sprE_zero {L : List Int} {more : Bool} {cap : Int} {ps : List (Int × Int)} {out price : Int} : sprE L more cap ps out price = 0 ↔ SprOK L more cap ps out price := by
  unfold sprE
  cases ha : argBad L (-1) ps with
  | true =>
    refine ⟨fun h => by simp at h, fun h => ?_⟩
    rw [(argBad_false ps (-1)).2 ⟨h.cell, h.asc⟩] at ha; cases ha
  | false =>
    obtain ⟨a1, a2⟩ := (argBad_false ps (-1)).1 ha
    cases hb : outBad more out price with
    | true =>
      refine ⟨fun h => by simp at h, fun h => ?_⟩
      unfold outBad at hb
      rw [outB_false.2 ⟨h.o0, h.o1⟩, outB_false.2 ⟨h.p0, h.p1⟩] at hb
      simp only [Bool.false_or, Bool.or_false, Bool.and_eq_true, decide_eq_true_eq, Bool.not_eq_true'] at hb
      rw [h.om hb.1] at hb
      cases hb.2
    | false =>
      unfold outBad at hb
      simp only [Bool.or_eq_false_iff, outB_false, Bool.and_eq_false_iff, decide_eq_false_iff_not, Bool.not_eq_false'] at hb
      obtain ⟨⟨⟨b1, b2⟩, b3⟩, b4, b5⟩ := hb
      cases hc : capBad cap ps with
      | true =>
        refine ⟨fun h => by simp at h, fun h => ?_⟩
        rw [capBad_false.2 h.part] at hc; cases hc
      | false =>
        have hc' := capBad_false.1 hc
        simp only [Bool.false_eq_true, if_false]
        constructor
        · intro h
          split at h
          · rename_i hs
            exact ⟨a1, a2, b1, b2, fun h0 => by rcases b3 with b3 | b3; omega; exact b3, b4, b5, hc', hs⟩
          · cases h
        · intro h
          rw [if_pos h.sum]
theorem spr_feas {L : List Int} {more : Bool} {cap : Int} {ps : List (Int × Int)} {out price : Int} (hcap : 1 ≤ cap) (h : SprOK L more cap ps out price) : Feas cap L ps :=
  ⟨by omega, fun q hq => ⟨by have := h.part q hq; omega, (h.part q hq).2⟩, by
    unfold List.Nodup
    rw [List.pairwise_map]
    exact h.asc.imp (fun hab => by omega), fun c hc => by
    obtain ⟨p, hp, rfl⟩ := List.mem_map.1 hc
    exact (h.cell p hp).1, by have := h.sum; have := h.o0; omega⟩
/-- what Prove says yes to is one of the greatest -/
theorem prove_any {zs : List Int} (hz : ∀ z ∈ zs, 0 ≤ z ∧ z ≤ 1000000) {cap : Int} (h1 : 1 ≤ cap) {S L : List Int} (hS : S.Pairwise fun a b => zc zs b ≤ zc zs a) (hn : S.Nodup) (hp : S.Perm L) {more : Bool} {ps : List (Int × Int)} {out price : Int}
    (h : SprOK L more cap ps out price) (hb : ppl zs ps = bnd zs cap L price) : ¬ (0 < (gv zs cap S).2.1 ∧ more = false) ∧ ppl zs ps = ppl zs (gv zs cap S).1 := by
  have hf := spr_feas h1 h
  refine ⟨?_, Int.le_antisymm (gv_most hz h1 hS hp hf) ?_⟩
  · rintro ⟨h2, h3⟩
    rw [gv_left h1 S hS] at h2
    have ho : out = 0 := by
      by_cases h0 : 0 < out
      · rw [h.om h0] at h3; cases h3
      · have := h.o0; omega
    have le := sumN_le (cap := cap) ps (fun q hq => (h.part q hq).2)
    have hl := nodup_len hf.nodup hf.sub
    rw [List.length_map, ← hp.length_eq] at hl
    have := Int.mul_le_mul_of_nonneg_right (c := cap) (show ((ps.length : Nat) : Int) ≤ (S.length : Int) by omega) (by omega)
    have := h.sum
    omega
  · have h2 := feas_le (zs := zs) (gv_feas h1 S hS hn) h.p0
    rw [hb]
    unfold bnd at *
    rw [← sumF_perm hp]
    exact h2
/-- Prove says yes to what Most hands back -/
theorem prove_most {zs : List Int} (hz : ∀ z ∈ zs, 0 ≤ z ∧ z ≤ 1000000) {cap : Int} (h1 : 1 ≤ cap) {S L : List Int} (hS : S.Pairwise fun a b => zc zs b ≤ zc zs a) (hn : S.Nodup) (hp : S.Perm L) (hL : ∀ c ∈ L, 0 ≤ c) {more : Bool} {qs : List (Int × Int)}
    (hq : qs.Perm (gv zs cap S).1) (hqs : qs.Pairwise fun x y => x.1 ≤ y.1) (hno : ¬ (0 < (gv zs cap S).2.1 ∧ more = false)) : SprOK L more cap qs (gv zs cap S).2.1 (gvPrice (gv zs cap S)) ∧ ppl zs (gv zs cap S).1 = bnd zs cap L (gvPrice (gv zs cap S)) := by
  have hi := gv_inv h1 S hS
  have hf := gv_feas h1 S hS hn
  obtain ⟨q1, q2⟩ := gvPrice_bd hz h1 S hS
  have hl0 := hi.l0
  have hsum := hi.sum
  refine ⟨⟨fun p hp' => ?_, ?_, hl0, ?_, fun h0 => ?_, q1, q2, fun p hp' => hi.part p (hq.mem_iff.1 hp'), ?_⟩, ?_⟩
  · have hc : p.1 ∈ L := hp.mem_iff.1 (hf.sub p.1 (List.mem_map_of_mem (hq.mem_iff.1 hp')))
    have := hL _ hc
    exact ⟨hc, by omega⟩
  · have hqn : (qs.map Prod.fst).Nodup := (hq.map Prod.fst).nodup_iff.2 hf.nodup
    unfold List.Nodup at hqn
    rw [List.pairwise_map] at hqn
    exact (hqs.and hqn).imp (fun h => by omega)
  · have h0 : ∀ (ps : List (Int × Int)), (∀ q ∈ ps, 0 ≤ q.2) → 0 ≤ sumN ps := fun ps => by
      induction ps with
      | nil => intro _; simp [sumN]
      | cons p ps ih => intro h; have := ih (fun q hq => h q (by simp [hq])); have := h p (by simp); rw [sumN_cons]; omega
    have := h0 (gv zs cap S).1 (fun q hq => (hf.part q hq).1)
    omega
  · cases more with
    | true => rfl
    | false => exact absurd ⟨h0, rfl⟩ hno
  · rw [sumN_perm hq]; omega
  · rw [gv_bnd hz h1 S hS]
    unfold bnd
    rw [sumF_perm hp]
end Go.Proofs.YtmglbegbijofkaaGreatDoor
/- Plain: the reference's loop over the fullest cells, round by round. -/
namespace Go.Proofs.YtmglbegbijofkaaGreatDoor
theorem map_fst_cap (cap : Int) (T : List Int) : (T.map fun c => (c, cap)).map Prod.fst = T := by
  rw [List.map_map]; simp [Function.comp_def]
theorem giv_zero {zs S : List Int} {cap : Int} {n : Nat} (h1 : 1 ≤ cap) (hS : S.Pairwise (ltS zs)) (hr : ∀ c ∈ S, 0 ≤ c ∧ c < (n : Int)) (hl : 0 < (gv zs cap S).2.1) (x : Int) (hx : 0 ≤ x) : gvn (givL n (gv zs cap S).1) x = 0 ↔ x ∉ S := by
  have hi := gv_inv h1 S (hS.imp ltS_le)
  have e := hi.full hl
  have e1 : (gv zs cap S).1.map Prod.fst = S := by rw [e, map_fst_cap]
  obtain ⟨g1, g2⟩ := givL_get n (gv zs cap S).1 (by rw [e1]; exact ltS_nodup hS) (fun p hp => hr p.1 (by rw [← e1]; exact List.mem_map_of_mem hp)) x hx
  rw [e1] at g2
  constructor
  · intro h hm
    have hxm : (x, cap) ∈ (gv zs cap S).1 := by rw [e]; exact List.mem_map.2 ⟨x, hm, rfl⟩
    have := g1 cap hxm
    omega
  · exact g2
theorem ref_next {zs S L : List Int} {cap : Int} {n k : Nat} (h1 : 1 ≤ cap) (hS : S.Pairwise (ltS zs)) (hp : S.Perm L) (hr : ∀ c ∈ L, 0 ≤ c ∧ c < (n : Int)) (hL : L.Pairwise (· < ·)) (hk : k < S.length) (hl : 0 < (gv zs cap (S.take k)).2.1) :
    fullF zs (givL n (gv zs cap (S.take k)).1) L = S[k] :=
  full_next (fun x hx => (hr x hx).1) hL hp hS hk (fun x hx => giv_zero h1 (hS.sublist (List.take_sublist _ _)) (fun c hc => hr c (hp.mem_iff.1 (List.mem_of_mem_take hc))) hl x (hr x hx).1)
theorem ref_last {zs S L : List Int} {cap : Int} {n : Nat} (h1 : 1 ≤ cap) (hS : S.Pairwise (ltS zs)) (hp : S.Perm L) (hr : ∀ c ∈ L, 0 ≤ c ∧ c < (n : Int)) (hL : L.Pairwise (· < ·)) (hl : 0 < (gv zs cap S).2.1) :
    fullF zs (givL n (gv zs cap S).1) L = -1 :=
  full_none (fun x hx => (hr x hx).1) hL hp (fun x hx => giv_zero h1 hS (fun c hc => hr c (hp.mem_iff.1 hc)) hl x (hr x hx).1)
/-- one round -/
theorem ref_step {zs S : List Int} {cap : Int} (h1 : 1 ≤ cap) {k : Nat} (hk : k < S.length) (hl : 0 < (gv zs cap (S.take k)).2.1) (n : Nat) :
    givL n (gv zs cap (S.take (k + 1))).1 = (givL n (gv zs cap (S.take k)).1).set S[k].toNat (min (gv zs cap (S.take k)).2.1 cap) ∧ (gv zs cap (S.take (k + 1))).2.1 = (gv zs cap (S.take k)).2.1 - min (gv zs cap (S.take k)).2.1 cap ∧ (gv zs cap (S.take (k + 1))).2.2 = zc zs S[k] := by
  have e : gv zs cap (S.take (k + 1)) = gvStep zs cap (gv zs cap (S.take k)) S[k] := by rw [List.take_succ_eq_append_getElem hk, gv_snoc]
  rw [e]
  unfold gvStep
  rw [if_pos (by omega)]
  exact ⟨givL_snoc n _ _, rfl, rfl⟩
/-- parts of a list of cells are at most a million -/
theorem givL_bd {zs S : List Int} {cap : Int} {n : Nat} (h1 : 1 ≤ cap) (h2 : cap ≤ 1000000) (hS : S.Pairwise (ltS zs)) (hr : ∀ c ∈ S, 0 ≤ c ∧ c < (n : Int)) : ∀ x, 0 ≤ x → 0 ≤ gvn (givL n (gv zs cap S).1) x ∧ gvn (givL n (gv zs cap S).1) x ≤ 1000000 := by
  intro x hx
  have hi := gv_inv h1 S (hS.imp ltS_le)
  have hf := gv_feas h1 S (hS.imp ltS_le) (ltS_nodup hS)
  obtain ⟨g1, g2⟩ := givL_get n (gv zs cap S).1 hf.nodup (fun p hp => hr p.1 (hf.sub p.1 (List.mem_map_of_mem hp))) x hx
  by_cases hm : x ∈ (gv zs cap S).1.map Prod.fst
  · obtain ⟨p, hp, rfl⟩ := List.mem_map.1 hm
    have := g1 p.2 hp
    have := hi.part p hp
    omega
  · rw [g2 hm]; omega
end Go.Proofs.YtmglbegbijofkaaGreatDoor
/- Plain: parts that are given cell by cell, and again from the last cell on. -/
namespace Go.Proofs.YtmglbegbijofkaaGreatDoor
theorem sum_set : ∀ (l : List Int) (i : Nat) (v : Int), i < l.length → (l.set i v).sum = l.sum - l.getD i 0 + v
  | [], i, v, h => by simp at h
  | a :: l, 0, v, _ => by simp; omega
  | a :: l, i + 1, v, h => by
    have ih := sum_set l i v (by simpa using h)
    simp only [List.set_cons_succ, List.sum_cons, List.getD_cons_succ, ih]
    omega
theorem getD_set (l : List Int) (i j : Nat) (v : Int) (hi : i < l.length) : (l.set i v).getD j 0 = if i = j then v else l.getD j 0 := by
  rw [List.getD_eq_getElem?_getD, List.getElem?_set, List.getD_eq_getElem?_getD]
  by_cases h : i = j
  · subst h; simp [hi]
  · simp [h]
/-- the parts so far -/
structure PI (cap : Int) (n : Nat) (pl : List Int) (left : Int) : Prop where
  len : pl.length = n
  bd : ∀ j, 0 ≤ pl.getD j 0 ∧ pl.getD j 0 ≤ cap
  sum : pl.sum + left = 1000000
  l0 : 0 ≤ left
theorem sum_nonneg : ∀ (l : List Int), (∀ j, 0 ≤ l.getD j 0) → 0 ≤ l.sum
  | [], _ => by simp
  | a :: l, h => by
    have h0 := h 0
    have ih := sum_nonneg l (fun j => by simpa using h (j + 1))
    simp at h0 ⊢
    omega
theorem PI.le {cap : Int} {n : Nat} {pl : List Int} {left : Int} (h : PI cap n pl left) : left ≤ 1000000 := by
  have := sum_nonneg pl (fun j => (h.bd j).1)
  have := h.sum
  omega
theorem PI.start {cap : Int} (h0 : 0 ≤ cap) (n : Nat) : PI cap n (List.replicate n 0) 1000000 := by
  have hs : ∀ n : Nat, (List.replicate n (0 : Int)).sum = 0 := fun n => by
    induction n with
    | zero => rfl
    | succ n ih => rw [List.replicate_succ, List.sum_cons, ih]; rfl
  refine ⟨by simp, fun j => ?_, by rw [hs]; rfl, by omega⟩
  rw [List.getD_eq_getElem?_getD, List.getElem?_replicate]
  split <;> simp [h0]
theorem PI.put {cap : Int} {n : Nat} {pl : List Int} {left : Int} (h : PI cap n pl left) {i : Nat} (hi : i < n) {v : Int} (h0 : 0 ≤ v) (h1 : v ≤ cap) (h2 : v - pl.getD i 0 ≤ left) : PI cap n (pl.set i v) (left - (v - pl.getD i 0)) := by
  have hl := h.len
  refine ⟨by simp [hl], fun j => ?_, ?_, by omega⟩
  · rw [getD_set pl i j v (by omega)]
    split
    · exact ⟨h0, h1⟩
    · exact h.bd j
  · rw [sum_set pl i v (by omega)]
    have := h.sum
    omega
theorem full_sum {cap : Int} : ∀ (l : List Int), (∀ j, j < l.length → l.getD j 0 = cap) → l.sum = l.length * cap
  | [], _ => by simp
  | a :: l, h => by
    have h0 := h 0 (by simp)
    have ih := full_sum l (fun j hj => by simpa using h (j + 1) (by simp; omega))
    simp at h0
    rw [List.sum_cons, ih, h0, List.length_cons]
    push_cast
    rw [Int.add_mul]
    omega
theorem PI.mem {cap : Int} {n : Nat} {pl : List Int} {left : Int} (h : PI cap n pl left) : ∀ x ∈ pl, 0 ≤ x ∧ x ≤ cap := by
  intro x hx
  obtain ⟨j, hj, rfl⟩ := List.getElem_of_mem hx
  have := h.bd j
  rwa [List.getD_eq_getElem?_getD, List.getElem?_eq_getElem hj, Option.getD_some] at this
theorem PI.feas {cap : Int} {L pl : List Int} {left : Int} (h0 : 0 ≤ cap) (h : PI cap L.length pl left) (hn : L.Nodup) : Feas cap L (L.zip pl) :=
  zip_feas h0 h.len hn h.mem (by have := h.sum; have := h.l0; omega)
/-- the law's sums -/
theorem zip_take_snoc {L pl : List Int} {k : Nat} (hl : pl.length = L.length) (hk : k < L.length) : (L.zip pl).take (k + 1) = (L.zip pl).take k ++ [(L.getD k 0, pl.getD k 0)] := by
  rw [List.take_succ_eq_append_getElem (by simp; omega)]
  congr 1
  rw [List.getElem_zip]
  simp [hk, hl]
theorem ppl_zip_snoc (zs : List Int) {L pl : List Int} {k : Nat} (hl : pl.length = L.length) (hk : k < L.length) : ppl zs ((L.zip pl).take (k + 1)) = ppl zs ((L.zip pl).take k) + pl.getD k 0 * zc zs (L.getD k 0) := by
  rw [zip_take_snoc hl hk, ppl_snoc]; rfl
theorem sumF_take_snoc (f : Int → Int) {L : List Int} {k : Nat} (hk : k < L.length) : sumF f (L.take (k + 1)) = sumF f (L.take k) + f (L.getD k 0) := by
  rw [List.take_succ_eq_append_getElem hk, sumF_snoc]
  simp [hk]
theorem ppl_zip_bd {zs : List Int} (hz : ∀ z ∈ zs, 0 ≤ z ∧ z ≤ 1000000) : ∀ (ps : List (Int × Int)), (∀ p ∈ ps, 0 ≤ p.2 ∧ p.2 ≤ 1000000) → 0 ≤ ppl zs ps ∧ ppl zs ps ≤ ps.length * 1000000000000
  | [], _ => by simp [ppl]
  | p :: ps, h => by
    have ih := ppl_zip_bd hz ps (fun q hq => h q (by simp [hq]))
    have hp := h p (by simp)
    have h1 := zc_bd hz p.1
    have b1 := Int.mul_nonneg hp.1 h1.1
    have b2 := Int.mul_le_mul hp.2 h1.2 h1.1 (by omega : (0 : Int) ≤ 1000000)
    rw [ppl_cons, List.length_cons]
    push_cast
    omega
theorem surplus_bd {zs : List Int} (hz : ∀ z ∈ zs, 0 ≤ z ∧ z ≤ 1000000) {cap p : Int} (h0 : 0 ≤ cap) (h1 : cap ≤ 1000000) (hp : 0 ≤ p) : ∀ l : List Int, 0 ≤ sumF (fun c => cap * max 0 (zc zs c - p)) l ∧ sumF (fun c => cap * max 0 (zc zs c - p)) l ≤ l.length * 1000000000000
  | [] => by simp [sumF]
  | c :: l => by
    have ih := surplus_bd hz h0 h1 hp l
    have hc := zc_bd hz c
    have b1 := Int.mul_nonneg h0 (show 0 ≤ max 0 (zc zs c - p) by omega)
    have b2 := Int.mul_le_mul h1 (show max 0 (zc zs c - p) ≤ 1000000 by omega) (show 0 ≤ max 0 (zc zs c - p) by omega) (by omega : (0 : Int) ≤ 1000000)
    rw [sumF_cons, List.length_cons]
    push_cast
    omega
end Go.Proofs.YtmglbegbijofkaaGreatDoor
