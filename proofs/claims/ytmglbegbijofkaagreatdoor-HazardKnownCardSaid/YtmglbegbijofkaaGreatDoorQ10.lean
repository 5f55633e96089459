import Derived.Sort.LotA
set_option linter.unusedVariables false
set_option linter.unusedSimpArgs false
/- Plain: the merge in place (SymMerge), with its exchanges of ranges, its rotations and its binary searches; no program in sight. -/
namespace Go.Proofs.YtmglbegbijofkaaGreatDoor
open Go.Sort
variable {α : Type} [Inhabited α]

/-- the ranges from a and from b, n long, exchanged -/
def SwR (d : Array α) (a b n : Nat) (d' : Array α) : Prop :=
  d'.size = d.size ∧ ∀ x, d'[x]! = if a ≤ x ∧ x < a + n then d[x - a + b]! else if b ≤ x ∧ x < b + n then d[x - b + a]! else d[x]!
theorem SwR.zero (d : Array α) (a b : Nat) : SwR d a b 0 d := ⟨rfl, fun x => by rw [if_neg (by omega), if_neg (by omega)]⟩
theorem SwR.step {d dk : Array α} {a b n : Nat} (h : SwR d a b n dk) (h1 : a + n < b) (h2 : b + n < d.size) : SwR d a b (n + 1) (swp dk (a + n) (b + n)) := by
  obtain ⟨hs, hx⟩ := h
  refine ⟨by rw [swp_size]; exact hs, fun x => ?_⟩
  rw [swp_get dk (by omega) (by omega)]
  by_cases e1 : x = b + n
  · subst e1
    rw [if_pos rfl, if_neg (by omega), if_pos (by omega), hx, if_neg (by omega), if_neg (by omega)]
    congr 1; omega
  · rw [if_neg e1]
    by_cases e2 : x = a + n
    · subst e2
      rw [if_pos rfl, if_pos (by omega), hx, if_neg (by omega), if_neg (by omega)]
      congr 1; omega
    · rw [if_neg e2, hx]
      by_cases c1 : a ≤ x ∧ x < a + n
      · rw [if_pos c1, if_pos (by omega)]
      · rw [if_neg c1]
        by_cases c2 : b ≤ x ∧ x < b + n
        · rw [if_pos c2, if_neg (by omega), if_pos (by omega)]
        · rw [if_neg c2, if_neg (by omega), if_neg (by omega)]
/-- T is what dk becomes when the windows of i places before m and of j places from m on change places -/
structure Rot (T dk : Array α) (m i j : Nat) : Prop where
  im : i ≤ m
  size : dk.size = T.size
  top : m + j ≤ T.size
  low : ∀ x, x < m - i → T[x]! = dk[x]!
  high : ∀ x, m + j ≤ x → T[x]! = dk[x]!
  left : ∀ x, m - i ≤ x → x < m - i + j → T[x]! = dk[x + i]!
  right : ∀ x, m - i + j ≤ x → x < m + j → T[x]! = dk[x - j]!
theorem Rot.more {T dk dk' : Array α} {m i j : Nat} (h : Rot T dk m i j) (hij : j < i) (hs : SwR dk (m - i) m j dk') : Rot T dk' m (i - j) j := by
  obtain ⟨h0, h1, h2, h3, h4, h5, h6⟩ := h
  obtain ⟨s0, s1⟩ := hs
  refine ⟨by omega, by omega, h2, fun x hx => ?_, fun x hx => ?_, fun x hx hx2 => ?_, fun x hx hx2 => ?_⟩
  · rw [s1]
    by_cases c : m - i ≤ x
    · rw [if_pos (by omega), h5 x c (by omega)]; congr 1; omega
    · rw [if_neg (by omega), if_neg (by omega), h3 x (by omega)]
  · rw [s1, if_neg (by omega), if_neg (by omega), h4 x hx]
  · by_cases c : x < m - i + j
    · omega
    · rw [h6 x (by omega) (by omega), s1, if_neg (by omega), if_pos (by omega)]; congr 1; omega
  · rw [h6 x (by omega) (by omega), s1]
    rw [if_neg (by omega), if_neg (by omega)]
theorem Rot.less {T dk dk' : Array α} {m i j : Nat} (h : Rot T dk m i j) (hij : i < j) (hs : SwR dk (m - i) (m + j - i) i dk') : Rot T dk' m i (j - i) := by
  obtain ⟨h0, h1, h2, h3, h4, h5, h6⟩ := h
  obtain ⟨s0, s1⟩ := hs
  refine ⟨by omega, by omega, by omega, fun x hx => ?_, fun x hx => ?_, fun x hx hx2 => ?_, fun x hx hx2 => ?_⟩
  · rw [s1, if_neg (by omega), if_neg (by omega), h3 x hx]
  · rw [s1]
    by_cases c : x < m + j
    · rw [if_neg (by omega), if_pos (by omega), h6 x (by omega) c]; congr 1; omega
    · rw [if_neg (by omega), if_neg (by omega), h4 x (by omega)]
  · rw [s1, if_neg (by omega), if_neg (by omega), h5 x (by omega) (by omega)]
  · by_cases c : x < m - i + j
    · rw [h5 x (by omega) c, s1]
      rw [if_pos (by omega)]; congr 1; omega
    · omega
theorem Rot.last {T dk dk' : Array α} {m i : Nat} (h : Rot T dk m i i) (hs : SwR dk (m - i) m i dk') : ∀ x : Nat, dk'[x]! = T[x]! := by
  obtain ⟨h0, h1, h2, h3, h4, h5, h6⟩ := h
  obtain ⟨s0, s1⟩ := hs
  intro x
  rw [s1]
  by_cases c1 : m - i ≤ x ∧ x < m - i + i
  · rw [if_pos c1, h5 x c1.1 c1.2]; congr 1; omega
  · rw [if_neg c1]
    by_cases c2 : m ≤ x ∧ x < m + i
    · rw [if_pos c2, h6 x (by omega) (by omega)]; congr 1; omega
    · rw [if_neg c2]
      by_cases c3 : x < m - i
      · rw [h3 x c3]
      · rw [h4 x (by omega)]
/-- the windows [a, m) and [m, b) have changed places -/
def RotS (d : Array α) (a m b : Nat) (d' : Array α) : Prop :=
  d'.size = d.size ∧ ∀ x, d'[x]! = if a ≤ x ∧ x < a + (b - m) then d[x + (m - a)]! else if a + (b - m) ≤ x ∧ x < b then d[x - (b - m)]! else d[x]!
def rotT (d : Array α) (a m b : Nat) : Array α := Array.ofFn (n := d.size) fun x => if a ≤ x.val ∧ x.val < a + (b - m) then d[x.val + (m - a)]! else if a + (b - m) ≤ x.val ∧ x.val < b then d[x.val - (b - m)]! else d[x.val]!
theorem rotT_spec (d : Array α) (a m b : Nat) (ham : a ≤ m) (hmb : m ≤ b) (hb : b ≤ d.size) : RotS d a m b (rotT d a m b) := by
  refine ⟨by simp [rotT], fun x => ?_⟩
  by_cases hx : x < d.size
  · rw [getElem!_pos _ x (by simpa [rotT] using hx)]
    unfold rotT
    rw [Array.getElem_ofFn]
  · rw [getElem!_neg _ x (by simpa [rotT] using hx), if_neg (by omega), if_neg (by omega), getElem!_neg _ x hx]
theorem Rot.start (d : Array α) (a m b : Nat) (ham : a ≤ m) (hmb : m ≤ b) (hb : b ≤ d.size) : Rot (rotT d a m b) d m (m - a) (b - m) := by
  obtain ⟨r0, r1⟩ := rotT_spec d a m b ham hmb hb
  refine ⟨by omega, r0.symm, by omega, fun x hx => ?_, fun x hx => ?_, fun x hx hx2 => ?_, fun x hx hx2 => ?_⟩
  · rw [r1, if_neg (by omega), if_neg (by omega)]
  · rw [r1, if_neg (by omega), if_neg (by omega)]
  · rw [r1, if_pos (by omega)]
  · rw [r1, if_neg (by omega), if_pos (by omega)]
theorem Rot.done {d dk dk' : Array α} {a m b i : Nat} (ham : a ≤ m) (hmb : m ≤ b) (hb : b ≤ d.size) (h : Rot (rotT d a m b) dk m i i) (hs : SwR dk (m - i) m i dk') : RotS d a m b dk' := by
  obtain ⟨r0, r1⟩ := rotT_spec d a m b ham hmb hb
  refine ⟨by rw [hs.1, h.size, r0], fun x => ?_⟩
  rw [h.last hs, r1]

/-- a strict total order by which the sort is stable: at two elements of which one was before the other the test decides it -/
structure Stab (lt slt : α → α → Bool) (idn : α → Nat) : Prop where
  swo : SWO slt
  at_ : ∀ x y, idn x < idn y → slt y x = lt y x ∧ slt x y = !lt y x
def Asc (idn : α → Nat) (a m b : Nat) (d : Array α) : Prop := ∀ i j, a ≤ i → i < m → m ≤ j → j < b → idn d[i]! < idn d[j]!
variable {lt slt : α → α → Bool} {idn : α → Nat}
omit [Inhabited α] in
/-- where the test says no, the left one is before the right one -/
theorem Stab.no (S : Stab lt slt idn) {x y : α} (h : idn x < idn y) (hl : lt y x = false) : slt x y = true := by rw [(S.at_ x y h).2, hl]; rfl
omit [Inhabited α] in
theorem Stab.yes (S : Stab lt slt idn) {x y : α} (h : idn x < idn y) (hl : lt y x = true) : slt y x = true := by rw [(S.at_ x y h).1, hl]
omit [Inhabited α] in
theorem Stab.asymm (S : Stab lt slt idn) {x y : α} (h : slt x y = true) : slt y x = false := S.swo.asymmA h
omit [Inhabited α] in
/-- x at most y, y at most z -/
theorem Stab.le_trans (S : Stab lt slt idn) {x y z : α} (h1 : slt y x = false) (h2 : slt z y = false) : slt z x = false := S.swo.ntrans _ _ _ h2 h1
theorem SortedIn.le {a b : Nat} {d : Array α} (S : Stab lt slt idn) (h : SortedIn slt a b d) {i j : Nat} (h1 : a ≤ i) (h2 : i ≤ j) (h3 : j < b) : slt d[j]! d[i]! = false := by
  by_cases e : i = j
  · subst e; exact S.swo.irrefl _
  · exact h i j h1 (by omega) h3
theorem SortedIn.sub {a b a' b' : Nat} {d : Array α} (h : SortedIn slt a b d) (ha : a ≤ a') (hb : b' ≤ b) : SortedIn slt a' b' d := fun i j h1 h2 h3 => h i j (by omega) h2 (by omega)
theorem sortedIn_one {a b : Nat} {d : Array α} (h : b ≤ a + 1) : SortedIn slt a b d := fun i j h1 h2 h3 => by omega
/-- what one element goes through on its way up (data[a] to i - 1) -/
def moveUp (d : Array α) (a : Nat) (k : Nat) (dk : Array α) : Prop := dk.size = d.size ∧ a ≤ k ∧ ∀ x, dk[x]! = if a ≤ x ∧ x < k then d[x + 1]! else if x = k then d[a]! else d[x]!
theorem moveUp.start (d : Array α) (a : Nat) : moveUp d a a d := ⟨rfl, Nat.le_refl _, fun x => by
  rw [if_neg (by omega)]; split
  · subst x; rfl
  · rfl⟩
theorem moveUp.step {d dk : Array α} {a k : Nat} (h : moveUp d a k dk) (hk : k + 1 < d.size) : moveUp d a (k + 1) (swp dk k (k + 1)) := by
  obtain ⟨h0, h1, h2⟩ := h
  refine ⟨by rw [swp_size]; exact h0, by omega, fun x => ?_⟩
  rw [swp_get dk (by omega) (by omega)]
  by_cases e1 : x = k + 1
  · subst e1; rw [if_pos rfl, if_neg (by omega), if_pos rfl, h2, if_neg (by omega), if_pos rfl]
  · rw [if_neg e1]
    by_cases e2 : x = k
    · subst e2; rw [if_pos rfl, if_pos (by omega), h2, if_neg (by omega), if_neg (by omega)]
    · rw [if_neg e2, h2]
      by_cases c : a ≤ x ∧ x < k
      · rw [if_pos c, if_pos (by omega)]
      · rw [if_neg c, if_neg e2, if_neg (by omega), if_neg e1]
theorem moveUp.in_ {d dk : Array α} {a k : Nat} (h : moveUp d a k dk) (x : Nat) (h1 : a ≤ x) (h2 : x < k) : dk[x]! = d[x + 1]! := by rw [h.2.2, if_pos ⟨h1, h2⟩]
theorem moveUp.at_ {d dk : Array α} {a k : Nat} (h : moveUp d a k dk) : dk[k]! = d[a]! := by rw [h.2.2, if_neg (by omega), if_pos rfl]
theorem moveUp.out_ {d dk : Array α} {a k : Nat} (h : moveUp d a k dk) (x : Nat) (h1 : k < x) : dk[x]! = d[x]! := by rw [h.2.2, if_neg (by omega), if_neg (by omega)]
/-- what one element goes through on its way down (data[m] to i) -/
def moveDn (d : Array α) (m : Nat) (k : Nat) (dk : Array α) : Prop := dk.size = d.size ∧ k ≤ m ∧ ∀ x, dk[x]! = if k < x ∧ x ≤ m then d[x - 1]! else if x = k then d[m]! else d[x]!
theorem moveDn.start (d : Array α) (m : Nat) : moveDn d m m d := ⟨rfl, Nat.le_refl _, fun x => by
  rw [if_neg (by omega)]; split
  · subst x; rfl
  · rfl⟩
theorem moveDn.step {d dk : Array α} {m k : Nat} (h : moveDn d m (k + 1) dk) (hm : m < d.size) : moveDn d m k (swp dk (k + 1) k) := by
  obtain ⟨h0, h1, h2⟩ := h
  refine ⟨by rw [swp_size]; exact h0, by omega, fun x => ?_⟩
  rw [swp_get dk (by omega) (by omega)]
  by_cases e1 : x = k
  · subst e1; rw [if_pos rfl, if_neg (by omega), if_pos rfl, h2, if_neg (by omega), if_pos rfl]
  · rw [if_neg e1]
    by_cases e2 : x = k + 1
    · subst e2; rw [if_pos rfl, if_pos (by omega), h2, if_neg (by omega), if_neg (by omega)]; congr 1
    · rw [if_neg e2, h2]
      by_cases c : k + 1 < x ∧ x ≤ m
      · rw [if_pos c, if_pos (by omega)]
      · rw [if_neg c, if_neg e2, if_neg (by omega), if_neg e1]
theorem moveDn.in_ {d dk : Array α} {m k : Nat} (h : moveDn d m k dk) (x : Nat) (h1 : k < x) (h2 : x ≤ m) : dk[x]! = d[x - 1]! := by rw [h.2.2, if_pos ⟨h1, h2⟩]
theorem moveDn.at_ {d dk : Array α} {m k : Nat} (h : moveDn d m k dk) : dk[k]! = d[m]! := by rw [h.2.2, if_neg (by omega), if_pos rfl]
theorem moveDn.out_ {d dk : Array α} {m k : Nat} (h : moveDn d m k dk) (x : Nat) (h1 : x < k) : dk[x]! = d[x]! := by rw [h.2.2, if_neg (by omega), if_neg (by omega)]

/-- SymMerge where the left run is one element -/
theorem merge_left {d d' : Array α} {a b i : Nat} (S : Stab lt slt idn) (hsz : b ≤ d.size) (hab : a + 1 < b) (h2 : SortedIn slt (a + 1) b d) (hA : Asc idn a (a + 1) b d) (hi1 : a + 1 ≤ i) (hi2 : i ≤ b)
    (lo : i = a + 1 ∨ lt d[i - 1]! d[a]! = true) (hi : i = b ∨ lt d[i]! d[a]! = false) (hm : moveUp d a (i - 1) d') : SortedIn slt a b d' := by
  have below : ∀ x, a + 1 ≤ x → x < i → slt d[x]! d[a]! = true := fun x h3 h4 => by
    rcases lo with rfl | lo
    · omega
    · have h5 := S.yes (hA a (i - 1) (Nat.le_refl _) (by omega) (by omega) (by omega)) lo
      by_cases e : x = i - 1
      · rw [e]; exact h5
      · cases hc : slt d[x]! d[a]! with
        | true => rfl
        | false =>
          have h6 := h2 x (i - 1) h3 (by omega) (by omega)
          have := S.swo.ntrans _ _ _ h6 hc
          rw [h5] at this; cases this
  have above : ∀ x, i ≤ x → x < b → slt d[x]! d[a]! = false := fun x h3 h4 => by
    rcases hi with rfl | hi
    · omega
    · have h5 := (S.at_ d[a]! d[i]! (hA a i (Nat.le_refl _) (by omega) (by omega) (by omega))).1
      rw [hi] at h5
      exact S.le_trans h5 (SortedIn.le S h2 (by omega) h3 h4)
  intro p q hap hpq hqb
  by_cases cp : p < i - 1
  · rw [hm.in_ p hap cp]
    by_cases cq : q < i - 1
    · rw [hm.in_ q (by omega) cq]
      exact h2 _ _ (by omega) (by omega) (by omega)
    · by_cases eq : q = i - 1
      · rw [eq, hm.at_]
        exact S.asymm (below (p + 1) (by omega) (by omega))
      · rw [hm.out_ q (by omega)]
        exact h2 _ _ (by omega) (by omega) (by omega)
  · rw [hm.out_ q (by omega)]
    by_cases ep : p = i - 1
    · rw [ep, hm.at_]
      exact above q (by omega) hqb
    · rw [hm.out_ p (by omega)]
      exact h2 _ _ (by omega) hpq hqb
/-- SymMerge where the right run is one element -/
theorem merge_right {d d' : Array α} {a m i : Nat} (S : Stab lt slt idn) (hsz : m < d.size) (ham : a < m) (h1 : SortedIn slt a m d) (hA : Asc idn a m (m + 1) d) (hi1 : a ≤ i) (hi2 : i ≤ m)
    (lo : i = a ∨ lt d[m]! d[i - 1]! = false) (hi : i = m ∨ lt d[m]! d[i]! = true) (hm : moveDn d m i d') : SortedIn slt a (m + 1) d' := by
  have below : ∀ x, a ≤ x → x < i → slt d[m]! d[x]! = false := fun x h3 h4 => by
    rcases lo with rfl | lo
    · omega
    · have h5 := (S.at_ d[i - 1]! d[m]! (hA (i - 1) m (by omega) (by omega) (Nat.le_refl _) (by omega))).1
      rw [lo] at h5
      exact S.le_trans (SortedIn.le S h1 h3 (by omega) (by omega)) h5
  have above : ∀ x, i ≤ x → x < m → slt d[x]! d[m]! = false := fun x h3 h4 => by
    rcases hi with rfl | hi
    · omega
    · have h5 := S.asymm (S.yes (hA i m (by omega) (by omega) (Nat.le_refl _) (by omega)) hi)
      exact S.le_trans h5 (SortedIn.le S h1 (by omega) h3 h4)
  intro p q hap hpq hqb
  by_cases cp : i < p
  · rw [hm.in_ p cp (by omega), hm.in_ q (by omega) (by omega)]
    exact h1 _ _ (by omega) (by omega) (by omega)
  · by_cases ep : p = i
    · rw [ep, hm.at_, hm.in_ q (by omega) (by omega)]
      exact above _ (by omega) (by omega)
    · rw [hm.out_ p (by omega)]
      by_cases cq : i < q
      · rw [hm.in_ q cq (by omega)]
        exact h1 _ _ (by omega) (by omega) (by omega)
      · by_cases eq : q = i
        · rw [eq, hm.at_]
          exact below p hap (by omega)
        · rw [hm.out_ q (by omega)]
          exact h1 _ _ (by omega) (by omega) (by omega)
/-- what the rotation of SymMerge leaves -/
structure Mid (slt : α → α → Bool) (idn : α → Nat) (a s mid e b : Nat) (d : Array α) : Prop where
  l1 : SortedIn slt a s d
  l2 : SortedIn slt s mid d
  r1 : SortedIn slt mid e d
  r2 : SortedIn slt e b d
  al : Asc idn a s mid d
  ar : Asc idn mid e b d
  cross : ∀ i j, a ≤ i → i < mid → mid ≤ j → j < b → slt d[j]! d[i]! = false
theorem sym_mid {d d1 : Array α} {a m b s mid : Nat} (S : Stab lt slt idn) (hsz : b ≤ d.size) (hmid : mid = (a + b) / 2) (ham : a < m) (hmb : m < b) (h1 : SortedIn slt a m d) (h2 : SortedIn slt m b d) (hA : Asc idn a m b d)
    (s1 : a ≤ s) (s2 : s ≤ m) (s3 : s ≤ mid) (s4 : mid + m ≤ b + s)
    (lo : s = a ∨ mid + m - s = b ∨ lt d[mid + m - s]! d[s - 1]! = false) (hi : s = m ∨ mid + m - s = m ∨ lt d[mid + m - s - 1]! d[s]! = true)
    (hr : RotS d s m (mid + m - s) d1) : Mid slt idn a s mid (mid + m - s) b d1 := by
  obtain ⟨h0, hx⟩ := hr
  obtain ⟨e, he⟩ : ∃ e, mid + m - s = e := ⟨_, rfl⟩
  rw [he] at lo hi hx ⊢
  have e1 : m ≤ e := by omega
  have e2 : e ≤ b := by omega
  have e3 : s + (e - m) = mid := by omega
  have xa : ∀ x, x < s → d1[x]! = d[x]! := fun x h => by rw [hx, if_neg (by omega), if_neg (by omega)]
  have xb : ∀ x, s ≤ x → x < mid → d1[x]! = d[x + (m - s)]! := fun x h h' => by rw [hx, if_pos (by omega)]
  have xc : ∀ x, mid ≤ x → x < e → d1[x]! = d[x - (e - m)]! := fun x h h' => by rw [hx, if_neg (by omega), if_pos (by omega)]
  have xd : ∀ x, e ≤ x → d1[x]! = d[x]! := fun x h => by rw [hx, if_neg (by omega), if_neg (by omega)]
  refine ⟨fun i j c1 c2 c3 => ?_, fun i j c1 c2 c3 => ?_, fun i j c1 c2 c3 => ?_, fun i j c1 c2 c3 => ?_, fun i j c1 c2 c3 c4 => ?_, fun i j c1 c2 c3 c4 => ?_, fun i j c1 c2 c3 c4 => ?_⟩
  · rw [xa i (by omega), xa j (by omega)]; exact h1 i j c1 c2 (by omega)
  · rw [xb i (by omega) (by omega), xb j (by omega) (by omega)]; exact h2 _ _ (by omega) (by omega) (by omega)
  · rw [xc i (by omega) (by omega), xc j (by omega) (by omega)]; exact h1 _ _ (by omega) (by omega) (by omega)
  · rw [xd i (by omega), xd j (by omega)]; exact h2 i j (by omega) c2 c3
  · rw [xa i (by omega), xb j (by omega) (by omega)]; exact hA _ _ (by omega) (by omega) (by omega) (by omega)
  · rw [xc i (by omega) (by omega), xd j (by omega)]; exact hA _ _ (by omega) (by omega) (by omega) (by omega)
  · by_cases ci : i < s
    · rw [xa i ci]
      by_cases cj : j < e
      · rw [xc j c3 cj]; exact h1 _ _ (by omega) (by omega) (by omega)
      · rw [xd j (by omega)]
        rcases lo with lo | lo | lo
        · omega
        · omega
        · have h5 := (S.at_ d[s - 1]! d[e]! (hA (s - 1) e (by omega) (by omega) (by omega) (by omega))).1
          rw [lo] at h5
          exact S.le_trans (SortedIn.le S h1 c1 (show i ≤ s - 1 by omega) (by omega)) (S.le_trans h5 (SortedIn.le S h2 (by omega) (by omega) c4))
    · rw [xb i (by omega) c2]
      by_cases cj : j < e
      · rw [xc j c3 cj]
        rcases hi with hi | hi | hi
        · omega
        · omega
        · have h5 := S.asymm (S.yes (hA s (e - 1) (by omega) (by omega) (by omega) (by omega)) hi)
          exact S.le_trans (SortedIn.le S h2 (by omega) (show i + (m - s) ≤ e - 1 by omega) (by omega)) (S.le_trans h5 (SortedIn.le S h1 (by omega) (by omega) (by omega)))
      · rw [xd j (by omega)]; exact SortedIn.le S h2 (by omega) (by omega) c4
/-- both halves merged -/
theorem sym_done {d1 d2 d3 : Array α} {a s mid e b : Nat} (hsz : b ≤ d1.size) (ha : a ≤ mid) (hb : mid ≤ b) (h : Mid slt idn a s mid e b d1)
    (p2 : PermIn a mid d1 d2) (q2 : SortedIn slt a mid d2) (p3 : PermIn mid b d2 d3) (q3 : SortedIn slt mid b d3) : SortedIn slt a b d3 := by
  have c2 : ∀ i j, a ≤ i → i < mid → mid ≤ j → j < b → slt d2[j]! d2[i]! = false := fun i j c1 c2 c3 c4 => by
    rw [p2.2.1 j (Or.inr c3)]
    exact permIn_all d1 d2 a mid (fun x => slt d1[j]! x = false) (by omega) p2 (fun k k1 k2 => h.cross k j k1 k2 c3 c4) i c1 c2
  intro i j h1 h2 h3
  by_cases ci : i < mid
  · rw [p3.2.1 i (Or.inl ci)]
    by_cases cj : j < mid
    · rw [p3.2.1 j (Or.inl cj)]; exact q2 i j h1 h2 cj
    · exact permIn_all d2 d3 mid b (fun x => slt x d2[i]! = false) (by rw [p2.1]; exact hsz) p3 (fun k k1 k2 => c2 i k h1 ci k1 k2) j (by omega) h3
  · exact q3 i j (by omega) h2 h3
end Go.Proofs.YtmglbegbijofkaaGreatDoor
/- Plain: the blocks of the stable sort: sorted runs between boundaries, joined two by two; the insertion sort of a block is stable. -/
namespace Go.Proofs.YtmglbegbijofkaaGreatDoor
open Go.Sort
variable {α : Type} [Inhabited α] {lt slt : α → α → Bool} {idn : α → Nat}

/-- runs between the boundaries B: each sorted, and whatever lies before a boundary was before whatever lies behind it -/
structure Runs (slt : α → α → Bool) (idn : α → Nat) (n : Nat) (B : Nat → Prop) (d : Array α) : Prop where
  asc : ∀ c, B c → Asc idn 0 c n d
  srt : ∀ c e, B c → (∀ x, c < x → x < e → ¬ B x) → e ≤ n → SortedIn slt c e d
theorem Runs.congr {n : Nat} {B B' : Nat → Prop} {d : Array α} (h : Runs slt idn n B d) (hB : ∀ c, B c ↔ B' c) : Runs slt idn n B' d :=
  ⟨fun c hc => h.asc c ((hB c).2 hc), fun c e hc hx he => h.srt c e ((hB c).2 hc) (fun x h1 h2 h3 => hx x h1 h2 ((hB x).1 h3)) he⟩
theorem Runs.step {n : Nat} {B : Nat → Prop} {d d' : Array α} {a b : Nat} (h : Runs slt idn n B d) (hn : n ≤ d.size) (ha : B a) (hb : B b ∨ b = n) (hab : a ≤ b) (hbn : b ≤ n) (hp : PermIn a b d d') (hs : SortedIn slt a b d') :
    Runs slt idn n (fun c => B c ∧ ¬ (a < c ∧ c < b)) d' := by
  have pa : ∀ (p : α → Prop), (∀ i, a ≤ i → i < b → p d[i]!) → ∀ i, a ≤ i → i < b → p d'[i]! := fun p => permIn_all d d' a b p (by omega) hp
  refine ⟨fun c hc i j _ h2 h3 h4 => ?_, fun c e hc hx he => ?_⟩
  · have hA := h.asc c hc.1
    by_cases ci : a ≤ i ∧ i < b
    · have hcb : b ≤ c := by
        have := hc.2
        omega
      rw [hp.2.1 j (Or.inr (by omega))]
      exact pa (fun x => idn x < idn d[j]!) (fun k k1 k2 => hA k j (Nat.zero_le _) (by omega) h3 h4) i ci.1 ci.2
    · rw [hp.2.1 i (by omega)]
      by_cases cj : a ≤ j ∧ j < b
      · have hca : c ≤ a := by
          have := hc.2
          omega
        exact pa (fun x => idn d[i]! < idn x) (fun k k1 k2 => hA i k (Nat.zero_le _) h2 (by omega) (by omega)) j cj.1 cj.2
      · rw [hp.2.1 j (by omega)]
        exact hA i j (Nat.zero_le _) h2 h3 h4
  · have keep : (e ≤ a ∨ b ≤ c) → SortedIn slt c e d' := fun hk => by
      have h1 := h.srt c e hc.1 (fun x h1 h2 h3 => hx x h1 h2 ⟨h3, by omega⟩) he
      intro i j i1 i2 i3
      rw [hp.2.1 i (by omega), hp.2.1 j (by omega)]
      exact h1 i j i1 i2 i3
    by_cases e1 : c = a
    · subst e1
      by_cases hcb : c = b
      · exact keep (Or.inr (by omega))
      · have hbe : e ≤ b := by
          rcases hb with hb | rfl
          · by_cases hbe : b < e
            · exact absurd ⟨hb, by omega⟩ (hx b (by omega) hbe)
            · omega
          · exact he
        exact SortedIn.sub hs (Nat.le_refl _) hbe
    · by_cases e2 : c < a
      · have : e ≤ a := by
          by_cases hae : a < e
          · exact absurd ⟨ha, by omega⟩ (hx a e2 hae)
          · omega
        exact keep (Or.inl this)
      · have := hc.2
        exact keep (Or.inr (by omega))
theorem Runs.start {d : Array α} {n : Nat} (h : ∀ i j, i < j → j < n → idn d[i]! < idn d[j]!) : Runs slt idn n (fun _ => True) d :=
  ⟨fun c _ i j _ h2 h3 h4 => h i j (by omega) h4, fun c e _ hx _ => sortedIn_one (by
    by_cases he : e ≤ c + 1
    · exact he
    · exact absurd trivial (hx (c + 1) (by omega) (by omega)))⟩

/-- the insertion sort of a block whose elements come in their order -/
theorem ins_inner (S : Stab lt slt idn) (a i : Nat) : ∀ (j : Nat) (d : Array α), a ≤ j → j ≤ i → i < d.size → Ins slt a j i d → (∀ p, a ≤ p → p ≤ i → p ≠ j → idn d[p]! < idn d[j]!) → PermIn a (i + 1) d (insInner lt a j d) ∧ SortedIn slt a (i + 1) (insInner lt a j d)
  | 0, d, _, _, _, hI, _ => by
    unfold insInner
    exact ⟨permIn_refl d a _, hI.stop S.swo (Or.inl (Nat.zero_le _))⟩
  | j + 1, d, haj, hji, hb, hI, hid => by
    unfold insInner
    split
    · rename_i hc
      simp only [Bool.and_eq_true, decide_eq_true_eq] at hc
      have hl : slt d[j + 1]! d[j]! = true := S.yes (hid j (by omega) (by omega) (by omega)) hc.2
      have g := swp_get d (show j + 1 < d.size by omega) (show j < d.size by omega)
      have ih := ins_inner S a i j (swp d (j + 1) j) (by omega) (by omega) (by rw [swp_size]; exact hb) (hI.step hl (by omega) (by omega)) (fun p h1 h2 h3 => by
        have e0 : (swp d (j + 1) j)[j]! = d[j + 1]! := by rw [g, if_pos rfl]
        rw [e0, g, if_neg h3]
        by_cases e : p = j + 1
        · rw [if_pos e]; exact hid j (by omega) (by omega) (by omega)
        · rw [if_neg e]; exact hid p h1 h2 e)
      exact ⟨permIn_trans _ _ _ a (i + 1) (swp_permIn d a (i + 1) (j + 1) j haj (by omega) (by omega) (by omega) (by omega)) ih.1, ih.2⟩
    · rename_i hc
      simp only [Bool.and_eq_true, decide_eq_true_eq, not_and, Bool.not_eq_true] at hc
      refine ⟨permIn_refl d a _, hI.stop S.swo ?_⟩
      by_cases h : j + 1 > a
      · refine Or.inr ?_
        have := hc h
        show slt d[j + 1]! d[j]! = false
        rw [(S.at_ d[j]! d[j + 1]! (hid j (by omega) (by omega) (by omega))).1]
        exact this
      · exact Or.inl (by omega)
theorem ins_outer (S : Stab lt slt idn) (a b : Nat) : ∀ (k i : Nat) (d : Array α), b - i = k → a < i → i ≤ b → b ≤ d.size → SortedIn slt a i d → (∀ p q, a ≤ p → p < q → i ≤ q → q < b → idn d[p]! < idn d[q]!) → PermIn a b d (insOuter lt a b i d) ∧ SortedIn slt a b (insOuter lt a b i d)
  | 0, i, d, hn, _, hib, _, hs, _ => by
    obtain rfl : i = b := by omega
    rw [insOuter, if_neg (by omega)]
    exact ⟨permIn_refl d a i, hs⟩
  | k + 1, i, d, hn, hai, hib, hb, hs, hid => by
    have hlt : i < b := by omega
    rw [insOuter, if_pos hlt]
    have h1 := ins_inner S a i i d (by omega) (Nat.le_refl _) (by omega) ⟨fun p q hap hpq hqi _ hq => hs p q hap hpq (by omega), fun q h1 h2 => by omega⟩ (fun p p1 p2 p3 => hid p i p1 (by omega) (Nat.le_refl _) hlt)
    have pa : ∀ (p : α → Prop), (∀ x, a ≤ x → x < i + 1 → p d[x]!) → ∀ x, a ≤ x → x < i + 1 → p (insInner lt a i d)[x]! := fun p => permIn_all d _ a (i + 1) p (by omega) h1.1
    have h2 := ins_outer S a b k (i + 1) (insInner lt a i d) (by omega) (by omega) (by omega) (by rw [h1.1.1]; exact hb) h1.2 (fun p q p1 p2 p3 p4 => by
      rw [h1.1.2.1 q (Or.inr (by omega))]
      by_cases hp : p < i + 1
      · exact pa (fun x => idn x < idn d[q]!) (fun x x1 x2 => hid x q x1 (by omega) (by omega) p4) p p1 hp
      · rw [h1.1.2.1 p (Or.inr (by omega))]; exact hid p q p1 p2 (by omega) p4)
    exact ⟨permIn_trans _ _ _ a b (permIn_mono d _ a (i + 1) a b (Nat.le_refl _) (by omega) hb h1.1) h2.1, h2.2⟩
theorem ins_stable (S : Stab lt slt idn) (a b : Nat) (d : Array α) (hab : a ≤ b) (hb : b ≤ d.size) (hid : ∀ p q, a ≤ p → p < q → q < b → idn d[p]! < idn d[q]!) : PermIn a b d (Sort.insertionSort lt d a b) ∧ SortedIn slt a b (Sort.insertionSort lt d a b) := by
  unfold Sort.insertionSort
  by_cases h : a = b
  · subst h
    rw [insOuter, if_neg (by omega)]
    exact ⟨permIn_refl d a a, sortedIn_one (by omega)⟩
  · exact ins_outer S a b (b - (a + 1)) (a + 1) d rfl (by omega) (by omega) hb (sortedIn_one (by omega)) (fun p q h1 h2 _ h4 => hid p q h1 h2 h4)

/-- the boundaries: multiples of w, and of 1 (insertion) or of w (a pass) from a on -/
def bdI (a c : Nat) : Prop := (∃ k, c = k * 20) ∨ a ≤ c
def bdP (w a c : Nat) : Prop := (∃ k, c = k * w ∧ a ≤ c) ∨ (∃ k, c = k * (2 * w))
theorem mul_between {w k t : Nat} (h1 : t * w < k * w) (h2 : k * w < (t + 1) * w) : False := by
  have e1 : t < k := Nat.lt_of_mul_lt_mul_right h1
  have e2 : k < t + 1 := Nat.lt_of_mul_lt_mul_right h2
  omega
theorem runs_block {n t : Nat} {d d' : Array α} (h : Runs slt idn n (bdI (t * 20)) d) (hn : n ≤ d.size) (hb : t * 20 + 20 ≤ n) (hp : PermIn (t * 20) (t * 20 + 20) d d') (hs : SortedIn slt (t * 20) (t * 20 + 20) d') :
    Runs slt idn n (bdI ((t + 1) * 20)) d' := by
  refine (h.step hn (Or.inl ⟨t, rfl⟩) (Or.inl (Or.inr (by omega))) (by omega) hb hp hs).congr fun c => ?_
  unfold bdI
  constructor
  · rintro ⟨h1 | h1, h2⟩
    · exact Or.inl h1
    · by_cases e : c = t * 20
      · exact Or.inl ⟨t, e⟩
      · exact Or.inr (by omega)
  · rintro (⟨k, hk⟩ | h1)
    · exact ⟨Or.inl ⟨k, hk⟩, by omega⟩
    · exact ⟨Or.inr (by omega), by omega⟩
theorem runs_block_last {n t : Nat} {d d' : Array α} (h : Runs slt idn n (bdI (t * 20)) d) (hn : n ≤ d.size) (h1 : t * 20 ≤ n) (hb : n < t * 20 + 20) (hp : PermIn (t * 20) n d d') (hs : SortedIn slt (t * 20) n d') :
    Runs slt idn n (bdP 20 0) d' := by
  have h2 := h.step hn (Or.inl ⟨t, rfl⟩) (Or.inr rfl) h1 (Nat.le_refl _) hp hs
  refine ⟨fun c hc i j i1 i2 i3 i4 => ?_, fun c e hc hx he => ?_⟩
  · obtain ⟨k, hk⟩ : ∃ k, c = k * 20 := by
      rcases hc with ⟨k, hk, _⟩ | ⟨k, hk⟩
      · exact ⟨k, hk⟩
      · exact ⟨2 * k, by rw [hk]; omega⟩
    exact h2.asc c ⟨Or.inl ⟨k, hk⟩, by omega⟩ i j i1 i2 i3 i4
  · obtain ⟨k, hk⟩ : ∃ k, c = k * 20 := by
      rcases hc with ⟨k, hk, _⟩ | ⟨k, hk⟩
      · exact ⟨k, hk⟩
      · exact ⟨2 * k, by rw [hk]; omega⟩
    refine h2.srt c e ⟨Or.inl ⟨k, hk⟩, by omega⟩ (fun x x1 x2 x3 => ?_) he
    rcases x3.1 with ⟨k2, hk2⟩ | h4
    · exact hx x x1 x2 (Or.inl ⟨k2, hk2, Nat.zero_le _⟩)
    · have h5 := x3.2
      by_cases e2 : x = t * 20
      · exact hx x x1 x2 (Or.inl ⟨t, e2, Nat.zero_le _⟩)
      · omega
theorem runs_pair {n w t : Nat} {d d' : Array α} (hw : 0 < w) (h : Runs slt idn n (bdP w (t * (2 * w))) d) (hn : n ≤ d.size) (hb : t * (2 * w) + 2 * w ≤ n) (hp : PermIn (t * (2 * w)) (t * (2 * w) + 2 * w) d d') (hs : SortedIn slt (t * (2 * w)) (t * (2 * w) + 2 * w) d') :
    Runs slt idn n (bdP w ((t + 1) * (2 * w))) d' := by
  have e1 : t * (2 * w) = (2 * t) * w := by rw [← Nat.mul_assoc, Nat.mul_comm t 2]
  have e2 : (t + 1) * (2 * w) = t * (2 * w) + 2 * w := Nat.succ_mul _ _
  have e3 : t * (2 * w) + 2 * w = (2 * t + 2) * w := by rw [e1, Nat.add_mul]
  refine (h.step hn (Or.inr ⟨t, rfl⟩) (Or.inl (Or.inr ⟨t + 1, e2.symm⟩)) (by omega) hb hp hs).congr fun c => ?_
  unfold bdP
  rw [e2]
  constructor
  · rintro ⟨⟨k, hk, h1⟩ | h1, h2⟩
    · by_cases c1 : c < t * (2 * w) + 2 * w
      · have : c = t * (2 * w) := by omega
        exact Or.inr ⟨t, this⟩
      · exact Or.inl ⟨k, hk, by omega⟩
    · exact Or.inr h1
  · rintro (⟨k, hk, h1⟩ | ⟨k, hk⟩)
    · exact ⟨Or.inl ⟨k, hk, by omega⟩, by omega⟩
    · refine ⟨Or.inr ⟨k, hk⟩, fun ⟨c1, c2⟩ => ?_⟩
      rw [hk] at c1 c2
      rw [← e2] at c2
      exact mul_between c1 c2
theorem bdP_mul {w c : Nat} : bdP w 0 c ↔ ∃ k, c = k * w := by
  unfold bdP
  constructor
  · rintro (⟨k, hk, _⟩ | ⟨k, hk⟩)
    · exact ⟨k, hk⟩
    · exact ⟨k * 2, by rw [hk, Nat.mul_assoc]⟩
  · rintro ⟨k, hk⟩
    exact Or.inl ⟨k, hk, Nat.zero_le _⟩
/-- the boundaries beyond n - 1 do not matter -/
theorem Runs.upto {n : Nat} {B B' : Nat → Prop} {d : Array α} (h : Runs slt idn n B d) (hB : ∀ c, c < n → (B c ↔ B' c)) : Runs slt idn n B' d :=
  ⟨fun c hc i j h1 h2 h3 h4 => h.asc c ((hB c (by omega)).2 hc) i j h1 h2 h3 h4, fun c e hc hx he => by
    by_cases hcn : c < n
    · exact h.srt c e ((hB c hcn).2 hc) (fun x h1 h2 h3 => hx x h1 h2 ((hB x (by omega)).1 h3)) he
    · exact sortedIn_one (by omega)⟩
theorem runs_pass_merge {n w t : Nat} {d d' : Array α} (hw : 0 < w) (h : Runs slt idn n (bdP w (t * (2 * w))) d) (hn : n ≤ d.size) (h1 : t * (2 * w) + w < n) (hb : n < t * (2 * w) + 2 * w) (hp : PermIn (t * (2 * w)) n d d') (hs : SortedIn slt (t * (2 * w)) n d') :
    Runs slt idn n (bdP (2 * w) 0) d' := by
  have e2 : (t + 1) * (2 * w) = t * (2 * w) + 2 * w := Nat.succ_mul _ _
  refine (h.step hn (Or.inr ⟨t, rfl⟩) (Or.inr rfl) (by omega) (Nat.le_refl _) hp hs).upto fun c hc => ?_
  rw [bdP_mul]
  constructor
  · rintro ⟨⟨k, hk, h2⟩ | h2, h3⟩
    · exact ⟨t, by omega⟩
    · exact h2
  · rintro ⟨k, hk⟩
    refine ⟨Or.inr ⟨k, hk⟩, fun ⟨c1, c2⟩ => ?_⟩
    rw [hk] at c1 c2
    exact mul_between c1 (by rw [e2]; omega)
theorem runs_pass_none {n w t : Nat} {d : Array α} (h : Runs slt idn n (bdP w (t * (2 * w))) d) (h1 : n ≤ t * (2 * w) + w) : Runs slt idn n (bdP (2 * w) 0) d := by
  have e1 : t * (2 * w) = (2 * t) * w := by rw [← Nat.mul_assoc, Nat.mul_comm t 2]
  have e3 : (2 * t + 1) * w = t * (2 * w) + w := by rw [Nat.add_mul, ← e1, Nat.one_mul]
  refine h.upto fun c hc => ?_
  rw [bdP_mul]
  unfold bdP
  constructor
  · rintro (⟨k, hk, h2⟩ | h2)
    · by_cases e : c = t * (2 * w)
      · exact ⟨t, e⟩
      · exfalso
        rw [hk, e1] at h2 e
        exact mul_between (w := w) (k := k) (t := 2 * t) (by omega) (by rw [e3]; omega)
    · exact h2
  · rintro ⟨k, hk⟩
    exact Or.inr ⟨k, hk⟩
/-- what a merge of a pair is handed -/
theorem runs_pre {n w t b : Nat} {d : Array α} (h : Runs slt idn n (bdP w (t * (2 * w))) d) (h1 : t * (2 * w) + w < n) (h2 : b ≤ t * (2 * w) + 2 * w) (hbn : b ≤ n) :
    SortedIn slt (t * (2 * w)) (t * (2 * w) + w) d ∧ SortedIn slt (t * (2 * w) + w) b d ∧ Asc idn (t * (2 * w)) (t * (2 * w) + w) b d := by
  have e1 : t * (2 * w) = (2 * t) * w := by rw [← Nat.mul_assoc, Nat.mul_comm t 2]
  have e2 : (t + 1) * (2 * w) = t * (2 * w) + 2 * w := Nat.succ_mul _ _
  have e3 : (2 * t + 1) * w = t * (2 * w) + w := by rw [Nat.add_mul, ← e1, Nat.one_mul]
  have e4 : (2 * t + 2) * w = t * (2 * w) + 2 * w := by rw [Nat.add_mul, ← e1]
  have hm : bdP w (t * (2 * w)) (t * (2 * w) + w) := Or.inl ⟨2 * t + 1, e3.symm, by omega⟩
  refine ⟨h.srt _ _ (Or.inr ⟨t, rfl⟩) (fun x x1 x2 x3 => ?_) (by omega), h.srt _ _ hm (fun x x1 x2 x3 => ?_) hbn, fun i j i1 i2 i3 i4 => h.asc _ hm i j (Nat.zero_le _) i2 i3 (by omega)⟩
  · rcases x3 with ⟨k, hk, _⟩ | ⟨k, hk⟩
    · rw [hk] at x1 x2
      exact mul_between (w := w) (k := k) (t := 2 * t) (by omega) (by omega)
    · rw [hk] at x1 x2
      exact mul_between (w := 2 * w) (k := k) (t := t) (by omega) (by rw [e2]; omega)
  · rcases x3 with ⟨k, hk, _⟩ | ⟨k, hk⟩
    · rw [hk] at x1 x2
      exact mul_between (w := w) (k := k) (t := 2 * t + 1) (by omega) (by rw [show 2 * t + 1 + 1 = 2 * t + 2 from rfl]; omega)
    · rw [hk] at x1 x2
      exact mul_between (w := 2 * w) (k := k) (t := t) (by omega) (by rw [e2]; omega)
theorem runs_end {n w : Nat} {d : Array α} (h : Runs slt idn n (bdP w 0) d) (hw : n ≤ w) : SortedIn slt 0 n d := by
  refine h.srt 0 n (bdP_mul.2 ⟨0, by omega⟩) (fun x x1 x2 x3 => ?_) (Nat.le_refl _)
  obtain ⟨k, hk⟩ := bdP_mul.1 x3
  cases k with
  | zero => omega
  | succ k => rw [Nat.succ_mul] at hk; omega
end Go.Proofs.YtmglbegbijofkaaGreatDoor
