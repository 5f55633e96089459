/- Plain: a craft on a course is where its sights say. -/
import Derived.Test.YtmglbegbijofkaaGreatDoorPA
set_option linter.unusedVariables false
set_option linter.unusedSimpArgs false
namespace Go.Proofs.YtmglbegbijofkaaGreatDoor
/-- a part of a number, by 127ths -/
def shareZ (n b : Int) : Int := (n * max b (-127)).tdiv 127
theorem tdiv_bd (a n : Int) (h1 : -(n * 127) ≤ a) (h2 : a ≤ n * 127) : -n ≤ a.tdiv 127 ∧ a.tdiv 127 ≤ n := by
  by_cases h : 0 ≤ a
  · rw [Int.tdiv_eq_ediv_of_nonneg h]; omega
  · have e : a.tdiv 127 = -((-a) / 127) := by
      have h1 := Int.tdiv_eq_ediv_of_nonneg (a := -a) (b := 127) (by omega)
      rw [Int.neg_tdiv] at h1
      omega
    rw [e]; omega
theorem shareZ_bd (n b : Int) (h : 0 ≤ n) (h1 : b ≤ 127) : -n ≤ shareZ n b ∧ shareZ n b ≤ n := by
  unfold shareZ
  generalize hm : max b (-127) = m
  have m1 : -127 ≤ m := by omega
  have m2 : m ≤ 127 := by omega
  have k1 : n * -127 ≤ n * m := Int.mul_le_mul_of_nonneg_left m1 h
  have k2 : n * m ≤ n * 127 := Int.mul_le_mul_of_nonneg_left m2 h
  exact tdiv_bd _ _ (by omega) k2
/-- a path of which each step is at most a number -/
theorem path_far {p : Nat → Int} {sp : Int} {n : Nat} (hs : ∀ i, i < n → -sp ≤ p (i + 1) - p i ∧ p (i + 1) - p i ≤ sp) (i : Nat) : ∀ d : Nat, i + d ≤ n → -((d : Int) * sp) ≤ p (i + d) - p i ∧ p (i + d) - p i ≤ (d : Int) * sp
  | 0, _ => by simp
  | d + 1, h => by
    have h1 := path_far hs i d (by omega)
    have h2 := hs (i + d) (by omega)
    have e : ((d + 1 : Nat) : Int) * sp = (d : Int) * sp + sp := by rw [Int.natCast_add, Int.add_mul]; simp
    rw [e, show i + (d + 1) = i + d + 1 by omega]
    omega
theorem path_near {p : Nat → Int} {sp : Int} {n : Nat} (hs : ∀ i, i < n → -sp ≤ p (i + 1) - p i ∧ p (i + 1) - p i ≤ sp) (i j : Nat) (hi : i ≤ n) (hj : j ≤ n) (f : Int) (hf : f = max ((i : Int) - j) ((j : Int) - i)) : -(f * sp) ≤ p j - p i ∧ p j - p i ≤ f * sp := by
  by_cases h : i ≤ j
  · obtain ⟨d, rfl⟩ : ∃ d, j = i + d := ⟨j - i, by omega⟩
    have h1 := path_far hs i d hj
    have : f = (d : Int) := by omega
    rw [this]; exact h1
  · obtain ⟨d, rfl⟩ : ∃ d, i = j + d := ⟨i - j, by omega⟩
    have h1 := path_far hs j d hi
    have : f = (d : Int) := by omega
    rw [this]; omega
/-- a course: its places and heights, n steps from a tick on -/
structure Course (sp cl low high : Int) (n : Nat) (px py hh : Nat → Int) : Prop where
  dx : ∀ i, i < n → -sp ≤ px (i + 1) - px i ∧ px (i + 1) - px i ≤ sp
  dy : ∀ i, i < n → -sp ≤ py (i + 1) - py i ∧ py (i + 1) - py i ≤ sp
  dh : ∀ i, i < n → -cl ≤ hh (i + 1) - hh i ∧ hh (i + 1) - hh i ≤ cl
  lo : ∀ i, i ≤ n → low ≤ hh i ∧ hh i ≤ high
/-- a sight that was passed within its error -/
def SgOn (from_ : Int) (n : Nat) (px py hh : Nat → Int) (s : Sight) : Prop :=
  ∃ j, j ≤ n ∧ s.t = from_ + (j : Int) ∧ (-s.e ≤ s.x - px j ∧ s.x - px j ≤ s.e) ∧ (-s.e ≤ s.y - py j ∧ s.y - py j ≤ s.e) ∧ -s.e ≤ s.h - hh j ∧ s.h - hh j ≤ s.e
theorem sg_has {sp cl low high from_ : Int} {n : Nat} {px py hh : Nat → Int} (hc : Course sp cl low high n px py hh) {s : Sight} (hs : SgOn from_ n px py hh s) {i : Nat} (hi : i ≤ n) :
    ((sgX sp (from_ + i) s).1 ≤ px i ∧ px i ≤ (sgX sp (from_ + i) s).2) ∧ ((sgY sp (from_ + i) s).1 ≤ py i ∧ py i ≤ (sgY sp (from_ + i) s).2) ∧ (sgZ cl (from_ + i) s).1 ≤ hh i ∧ hh i ≤ (sgZ cl (from_ + i) s).2 := by
  obtain ⟨j, hj, ht, ⟨x1, x2⟩, ⟨y1, y2⟩, h1, h2⟩ := hs
  have hf : far (from_ + i) s = max ((i : Int) - j) ((j : Int) - i) := by unfold far; rw [ht]; omega
  obtain ⟨a1, a2⟩ := path_near hc.dx i j hi hj _ hf
  obtain ⟨b1, b2⟩ := path_near hc.dy i j hi hj _ hf
  obtain ⟨c1, c2⟩ := path_near hc.dh i j hi hj _ hf
  unfold sgX sgY sgZ
  generalize far (from_ + i) s * sp = fs at *
  generalize far (from_ + i) s * cl = fc at *
  dsimp only
  omega
theorem comLo_le {v : Int} : ∀ (l : List (Int × Int)) (lo : Int), lo ≤ v → (∀ p ∈ l, p.1 ≤ v) → comLo lo l ≤ v
  | [], lo, h, _ => h
  | p :: t, lo, h, hp => by
    show comLo (max lo p.1) t ≤ v
    exact comLo_le t _ (by have := hp p (by simp); omega) (fun q hq => hp q (by simp [hq]))
theorem le_comHi {v : Int} : ∀ (l : List (Int × Int)) (hi : Int), v ≤ hi → (∀ p ∈ l, v ≤ p.2) → v ≤ comHi hi l
  | [], hi, h, _ => h
  | p :: t, hi, h, hp => by
    show v ≤ comHi (min hi p.2) t
    exact le_comHi t _ (by have := hp p (by simp); omega) (fun q hq => hp q (by simp [hq]))
theorem com_has {v : Int} {l : List (Int × Int)} (hn : l ≠ []) (h : ∀ p ∈ l, p.1 ≤ v ∧ v ≤ p.2) : comL l ≤ v ∧ v ≤ comH l := by
  cases l with
  | nil => exact absurd rfl hn
  | cons p t =>
    exact ⟨comLo_le t _ (h p (by simp)).1 (fun q hq => (h q (by simp [hq])).1), le_comHi t _ (h p (by simp)).2 (fun q hq => (h q (by simp [hq])).2)⟩
structure Has (sp cl low high t x y h : Int) (ss : List Sight) : Prop where
  x0 : whXL sp t ss ≤ x
  x1 : x ≤ whXH sp t ss
  y0 : whYL sp t ss ≤ y
  y1 : y ≤ whYH sp t ss
  h0 : whZL cl low t ss ≤ h
  h1 : h ≤ whZH cl high t ss
theorem where_has {sp cl low high from_ : Int} {n : Nat} {px py hh : Nat → Int} (hc : Course sp cl low high n px py hh) {ss : List Sight} (hn : ss ≠ []) (hs : ∀ s ∈ ss, SgOn from_ n px py hh s) {i : Nat} (hi : i ≤ n) : Has sp cl low high (from_ + i) (px i) (py i) (hh i) ss := by
  have hne : ∀ f : Sight → Int × Int, ss.map f ≠ [] := fun f h => hn (List.map_eq_nil_iff.1 h)
  have kx := com_has (v := px i) (hne (sgX sp (from_ + i))) (fun p hp => by obtain ⟨s, hs', rfl⟩ := List.mem_map.1 hp; exact (sg_has hc (hs s hs') hi).1)
  have ky := com_has (v := py i) (hne (sgY sp (from_ + i))) (fun p hp => by obtain ⟨s, hs', rfl⟩ := List.mem_map.1 hp; exact (sg_has hc (hs s hs') hi).2.1)
  have hl := hc.lo i hi
  have k1 := comLo_le (v := hh i) (ss.map (sgZ cl (from_ + i))) low hl.1 (fun p hp => by obtain ⟨s, hs', rfl⟩ := List.mem_map.1 hp; exact (sg_has hc (hs s hs') hi).2.2.1)
  have k2 := le_comHi (v := hh i) (ss.map (sgZ cl (from_ + i))) high hl.2 (fun p hp => by obtain ⟨s, hs', rfl⟩ := List.mem_map.1 hp; exact (sg_has hc (hs s hs') hi).2.2.2)
  exact ⟨kx.1, kx.2, ky.1, ky.2, k1, k2⟩
theorem Has.wh {sp cl low high t x y h : Int} {ss : List Sight} (k : Has sp cl low high t x y h ss) : whB sp cl low high t ss = true := by
  obtain ⟨a, b, c, d, e, f⟩ := k
  unfold whB
  simp only [Bool.and_eq_true, decide_eq_true_eq]
  omega
theorem Has.room {sp cl low high t x y h : Int} {ss : List Sight} (k : Has sp cl low high t x y h ss) {a b c d : Int} (h1 : a ≤ x) (h2 : x ≤ b) (h3 : c ≤ y) (h4 : y ≤ d) (h5 : low ≤ h) (h6 : h ≤ high) : roomB sp cl low high t ss a b c d low high = true := by
  obtain ⟨k1, k2, k3, k4, k5, k6⟩ := k
  unfold roomB
  simp only [Bool.and_eq_true, Bool.not_eq_true', decide_eq_false_iff_not]
  omega
/-- the first tick at which it can be in a room is not later than one at which it is there -/
theorem first_has {sp cl low high : Int} {ss : List Sight} {o : Int → Int × Int × Int × Int × Int × Int} {m : Int} (hm : roomB sp cl low high m ss (o m).1 (o m).2.1 (o m).2.2.1 (o m).2.2.2.1 (o m).2.2.2.2.1 (o m).2.2.2.2.2 = true) :
    ∀ (n : Nat) (t : Int), firstE sp cl low high ss o n t = 0 → t ≤ m → m < t + n → t ≤ firstT sp cl low high ss o n t ∧ firstT sp cl low high ss o n t ≤ m
  | 0, t, _, h1, h2 => by omega
  | n + 1, t, he, h1, h2 => by
    unfold firstE at he
    unfold firstT
    cases hw : whB sp cl low high t ss with
    | false => rw [hw] at he; simp at he
    | true =>
      rw [hw] at he
      simp only [Bool.not_true, Bool.false_eq_true, if_false] at he ⊢
      cases hr : roomB sp cl low high t ss (o t).1 (o t).2.1 (o t).2.2.1 (o t).2.2.2.1 (o t).2.2.2.2.1 (o t).2.2.2.2.2 with
      | true => simp only [if_true]; omega
      | false =>
        rw [hr] at he
        simp only [Bool.false_eq_true, if_false] at he ⊢
        have hne : t ≠ m := fun e => by rw [e, hm] at hr; cases hr
        have := first_has hm n (t + 1) he (by omega) (by omega)
        omega
/-- moves: by 127ths of the speed, the speed, the climb -/
def mvAt (M : List (Int × Int × Int)) (k : Nat) : Int × Int × Int := M.getD k (0, 0, 0)
def posX (sp x : Int) (M : List (Int × Int × Int)) : Nat → Int
  | 0 => x
  | k + 1 => posX sp x M k + shareZ sp (mvAt M k).1
def posY (sp y : Int) (M : List (Int × Int × Int)) : Nat → Int
  | 0 => y
  | k + 1 => posY sp y M k + shareZ sp (mvAt M k).2.1
def posH (cl low high h : Int) (M : List (Int × Int × Int)) : Nat → Int
  | 0 => max low (min high h)
  | k + 1 => max low (min high (posH cl low high h M k + shareZ cl (mvAt M k).2.2))
def MvOK (M : List (Int × Int × Int)) : Prop := ∀ k, (-128 ≤ (mvAt M k).1 ∧ (mvAt M k).1 ≤ 127) ∧ (-128 ≤ (mvAt M k).2.1 ∧ (mvAt M k).2.1 ≤ 127) ∧ -128 ≤ (mvAt M k).2.2 ∧ (mvAt M k).2.2 ≤ 127
theorem posH_bd {cl low high h : Int} (hl : low ≤ high) (M : List (Int × Int × Int)) (k : Nat) : low ≤ posH cl low high h M k ∧ posH cl low high h M k ≤ high := by
  cases k <;> (unfold posH; omega)
theorem course_of {sp cl low high x y h : Int} {M : List (Int × Int × Int)} (n : Nat) (hM : MvOK M) (h1 : 0 ≤ sp) (h2 : 0 ≤ cl) (h3 : low ≤ high) : Course sp cl low high n (posX sp x M) (posY sp y M) (posH cl low high h M) := by
  refine ⟨fun i _ => ?_, fun i _ => ?_, fun i _ => ?_, fun i _ => posH_bd h3 M i⟩
  · have := shareZ_bd sp _ h1 (hM i).1.2
    simp only [posX]; omega
  · have := shareZ_bd sp _ h1 (hM i).2.1.2
    simp only [posY]; omega
  · have := shareZ_bd cl _ h2 (hM i).2.2.2
    have hb := posH_bd (cl := cl) (h := h) h3 M i
    simp only [posH]; omega
theorem pos_bd {sp cl low high x y h : Int} {M : List (Int × Int × Int)} {n : Nat} (hc : Course sp cl low high n (posX sp x M) (posY sp y M) (posH cl low high h M)) (h0 : 0 ≤ sp) (h1 : sp ≤ 1000000) (hn : n ≤ 200) {i : Nat} (hi : i ≤ n) :
    (x - 200000000 ≤ posX sp x M i ∧ posX sp x M i ≤ x + 200000000) ∧ y - 200000000 ≤ posY sp y M i ∧ posY sp y M i ≤ y + 200000000 := by
  have k1 := path_far hc.dx 0 i (by omega)
  have k2 := path_far hc.dy 0 i (by omega)
  have k3 := mul_bd (i : Int) sp 200 1000000 (by omega) (by omega) h0 h1
  rw [Nat.zero_add] at k1 k2
  have e1 : posX sp x M 0 = x := rfl
  have e2 : posY sp y M 0 = y := rfl
  rw [e1] at k1
  rw [e2] at k2
  omega
/-- a sight put on the course -/
def int8Z (a : Int) : Int := a.tmod 128
theorem int8Z_bd (a : Int) : -127 ≤ int8Z a ∧ int8Z a ≤ 127 := by
  unfold int8Z
  by_cases h : 0 ≤ a
  · rw [Int.tmod_eq_emod_of_nonneg h]; omega
  · have h1 := Int.tmod_eq_emod_of_nonneg (a := -a) (b := 128) (by omega)
    rw [Int.neg_tmod] at h1
    omega
def errZ (s : Sight) : Int := min s.e 1000000
def putS (from_ : Int) (px py hh : Nat → Int) (s : Sight) (k : Nat) : Sight :=
  ⟨from_ + (k * 7 : Nat), px (k * 7) + shareZ (errZ s) (int8Z s.x), py (k * 7) - shareZ (errZ s) (int8Z s.y), max 0 (min 2000000000 (hh (k * 7) + shareZ (errZ s) (int8Z s.h))), errZ s⟩
def putL (from_ : Int) (px py hh : Nat → Int) (ss : List Sight) (k : Nat) : List Sight := (List.range k).map fun j => putS from_ px py hh (sgAt ss j) j
/-- how many sights are put -/
def putN7 (ss : List Sight) (n : Nat) : Nat := min ss.length (n / 7 + 1)
theorem putS_on {sp cl low high from_ : Int} {n : Nat} {px py hh : Nat → Int} (hc : Course sp cl low high n px py hh) (hl : 0 ≤ low) (hh2 : high ≤ 2000000000) {s : Sight} (he : 0 ≤ s.e) {k : Nat} (hk : k * 7 ≤ n) : SgOn from_ n px py hh (putS from_ px py hh s k) := by
  have e0 : 0 ≤ errZ s := by unfold errZ; omega
  have h1 := shareZ_bd (errZ s) _ e0 (int8Z_bd s.x).2
  have h2 := shareZ_bd (errZ s) _ e0 (int8Z_bd s.y).2
  have h3 := shareZ_bd (errZ s) _ e0 (int8Z_bd s.h).2
  have h4 := hc.lo _ hk
  refine ⟨k * 7, hk, rfl, ?_, ?_, ?_⟩ <;> (simp only [putS]; omega)
theorem sgE_of {ss : List Sight} : ∀ (n k : Nat), (∀ j, k ≤ j → j < k + n → sgEarly ss j = false ∧ sgBad (sgAt ss j) = false) → sgE ss n k = 0
  | 0, _, _ => rfl
  | n + 1, k, h => by
    obtain ⟨h1, h2⟩ := h k (by omega) (by omega)
    unfold sgE
    rw [h1, h2]
    simp only [Bool.false_eq_true, if_false]
    exact sgE_of n (k + 1) (fun j a b => h j (by omega) (by omega))
theorem putL_at {from_ : Int} {px py hh : Nat → Int} {ss : List Sight} {m j : Nat} (hj : j < m) : sgAt (putL from_ px py hh ss m) j = putS from_ px py hh (sgAt ss j) j := by
  unfold sgAt putL
  rw [List.getD_eq_getElem?_getD, List.getElem?_map, List.getElem?_range hj]
  rfl
theorem course_ok {nm : List UInt8} {sp cl low high from_ x y h : Int} {ss : List Sight} {M : List (Int × Int × Int)} {n : Nat} (hE : crE nm sp cl low high ss = 0) (hM : MvOK M) (hn : n ≤ 200) (f0 : 0 ≤ from_) (f1 : from_ ≤ 99800) (x0 : -1000000000 ≤ x) (x1 : x ≤ 1000000000) (y0 : -1000000000 ≤ y) (y1 : y ≤ 1000000000) :
    let px := posX sp x M; let py := posY sp y M; let hh := posH cl low high h M
    let ss' := putL from_ px py hh ss (putN7 ss n)
    Course sp cl low high n px py hh ∧ ss' ≠ [] ∧ crE nm sp cl low high ss' = 0 ∧ ∀ s ∈ ss', SgOn from_ n px py hh s := by
  intro px py hh ss'
  have ok := craft_ok hE
  have hc : Course sp cl low high n px py hh := course_of n hM ok.s0 ok.c0 ok.l1
  have hN : 1 ≤ putN7 ss n ∧ putN7 ss n ≤ 10 ∧ ∀ j, j < putN7 ss n → j < ss.length ∧ j * 7 ≤ n := by
    have := ok.n0
    have := ok.n1
    unfold putN7
    refine ⟨by omega, by omega, fun j hj => ⟨by omega, by omega⟩⟩
  have hlen : ss'.length = putN7 ss n := by simp [ss', putL]
  have hon : ∀ s ∈ ss', SgOn from_ n px py hh s := fun s hs => by
    obtain ⟨j, hj, rfl⟩ := List.mem_map.1 hs
    have hj' := List.mem_range.1 hj
    obtain ⟨j1, j2⟩ := hN.2.2 j hj'
    exact putS_on hc ok.l0 ok.h1 (sgBad_false.1 (ok.sg j j1)).2.2.2.2.1 j2
  refine ⟨hc, fun e => ?_, ?_, hon⟩
  · rw [e] at hlen; have := hN.1; simp at hlen; omega
  · unfold crE at hE ⊢
    split at hE
    · omega
    · split at hE
      · omega
      · rename_i h1 h2
        rw [if_neg h1, if_neg h2, if_neg (by rw [hlen, outB_false.2 ⟨by omega, by omega⟩]; simp)]
        refine sgE_of _ _ (fun j _ hj => ?_)
        rw [Nat.zero_add, hlen] at hj
        obtain ⟨j1, j2⟩ := hN.2.2 j hj
        have hb := sgBad_false.1 (ok.sg j j1)
        have e1 : sgAt ss' j = putS from_ px py hh (sgAt ss j) j := putL_at hj
        have e0 : 0 ≤ errZ (sgAt ss j) ∧ errZ (sgAt ss j) ≤ 1000000 := by have := hb.2.2.2.2.1; unfold errZ; omega
        have k1 := shareZ_bd _ _ e0.1 (int8Z_bd (sgAt ss j).x).2
        have k2 := shareZ_bd _ _ e0.1 (int8Z_bd (sgAt ss j).y).2
        have kp := pos_bd hc ok.s0 ok.s1 hn j2
        constructor
        · unfold sgEarly
          cases j with
          | zero => rfl
          | succ j =>
            have e2 : sgAt ss' (j + 1 - 1) = putS from_ px py hh (sgAt ss j) j := putL_at (by omega)
            rw [e1, e2]
            have e3 : ¬ from_ + (((j + 1) * 7 : Nat) : Int) ≤ from_ + ((j * 7 : Nat) : Int) := by omega
            have e4 : decide (from_ + (((j + 1) * 7 : Nat) : Int) ≤ from_ + ((j * 7 : Nat) : Int)) = false := decide_eq_false e3
            exact Bool.and_eq_false_iff.2 (.inr e4)
        · rw [e1, sgBad_false]
          have ex : px (j * 7) = posX sp x M (j * 7) := rfl
          have ey : py (j * 7) = posY sp y M (j * 7) := rfl
          simp only [putS, ex, ey]
          omega
end Go.Proofs.YtmglbegbijofkaaGreatDoor
