/- Plain functions that say what the program's leaves compute; no program in sight. -/
namespace Go.Proofs.YtmglbegbijofkaaGreatDoor
def outB (n lo hi : Int) : Bool := decide (n < lo) || decide (hi < n)
def offB (n : Int) : Bool := outB n (-2000000000) 2000000000
def badB (lo hi : Int) : Bool := offB lo || offB hi || decide (hi < lo)
def wildB (xl xh yl yh : Int) : Bool := badB xl xh || badB yl yh
def strangeB (p xl xh yl yh tl th : Int) : Bool :=
  decide (p < 0) || wildB xl xh yl yh || outB th 0 100000 || outB tl 0 th || decide (3001 ≤ th - tl)
theorem outB_false {n lo hi : Int} : outB n lo hi = false ↔ lo ≤ n ∧ n ≤ hi := by unfold outB; simp
theorem outB_true {n lo hi : Int} : outB n lo hi = true ↔ n < lo ∨ hi < n := by unfold outB; simp
theorem offB_false {n : Int} : offB n = false ↔ -2000000000 ≤ n ∧ n ≤ 2000000000 := by unfold offB; exact outB_false
theorem badB_false {a b : Int} : badB a b = false ↔ -2000000000 ≤ a ∧ b ≤ 2000000000 ∧ a ≤ b := by
  unfold badB; simp [offB_false]; omega
theorem wildB_false {a b c d : Int} : wildB a b c d = false ↔ (-2000000000 ≤ a ∧ b ≤ 2000000000 ∧ a ≤ b) ∧ (-2000000000 ≤ c ∧ d ≤ 2000000000 ∧ c ≤ d) := by
  unfold wildB; simp [badB_false]
theorem strangeB_false {p a b c d s t : Int} : strangeB p a b c d s t = false ↔ 0 ≤ p ∧ ((-2000000000 ≤ a ∧ b ≤ 2000000000 ∧ a ≤ b) ∧ (-2000000000 ≤ c ∧ d ≤ 2000000000 ∧ c ≤ d)) ∧ 0 ≤ s ∧ s ≤ t ∧ t ≤ 100000 ∧ t - s < 3001 := by
  unfold strangeB; simp [wildB_false, outB_false]; omega
theorem tdiv_cases (a b : Int) : (0 ≤ a → a.tdiv b = a / b) ∧ (a < 0 → a.tdiv b = -((-a) / b)) := by
  refine ⟨fun h => Int.tdiv_eq_ediv_of_nonneg h, fun h => ?_⟩
  have e : a.tdiv b = -((-a).tdiv b) := by rw [Int.neg_tdiv]; simp
  rw [e, Int.tdiv_eq_ediv_of_nonneg (by omega)]
theorem ediv_facts (a b : Int) (hb : 1 ≤ b) : b * (a / b) ≤ a ∧ a < b * (a / b) + b := by
  have h1 := Int.emod_add_mul_ediv a b
  have h2 := Int.emod_nonneg a (show b ≠ 0 by omega)
  have h3 := Int.emod_lt_of_pos a (show 0 < b by omega)
  omega
theorem ediv_unique (a b q : Int) (hb : 1 ≤ b) (h1 : b * q ≤ a) (h2 : a < b * q + b) : a / b = q := by
  obtain ⟨h3, h4⟩ := ediv_facts a b hb
  have h5 : b * (a / b) < b * (q + 1) := by rw [Int.mul_add]; omega
  have h6 : b * q < b * (a / b + 1) := by rw [Int.mul_add]; omega
  have h7 := Int.lt_of_mul_lt_mul_left h5 (by omega)
  have h8 := Int.lt_of_mul_lt_mul_left h6 (by omega)
  omega
/-- Go's quotient, its product and the floor -/
theorem floor_facts (a b : Int) (hb : 1 ≤ b) :
    (0 ≤ a → 0 ≤ a.tdiv b ∧ a.tdiv b ≤ a ∧ 0 ≤ a.tdiv b * b ∧ a.tdiv b * b ≤ a) ∧ (a < 0 → a ≤ a.tdiv b ∧ a.tdiv b ≤ 0 ∧ a ≤ a.tdiv b * b ∧ a.tdiv b * b ≤ 0) ∧
    (a < a.tdiv b * b → a / b = a.tdiv b - 1) ∧ (a.tdiv b * b ≤ a → a / b = a.tdiv b) := by
  obtain ⟨hp, hn⟩ := tdiv_cases a b
  rcases Int.lt_or_le a 0 with h | h
  · have e := hn h
    obtain ⟨h1, h2⟩ := ediv_facts (-a) b hb
    have h0 : 0 ≤ (-a) / b := Int.ediv_nonneg (by omega) (by omega)
    have h3 : (-a) / b ≤ b * ((-a) / b) := by
      have := Int.mul_le_mul_of_nonneg_right (c := (-a) / b) hb h0
      omega
    have e2 : a.tdiv b * b = -(b * ((-a) / b)) := by rw [e, Int.neg_mul, Int.mul_comm]
    refine ⟨fun _ => by omega, fun _ => ⟨by omega, by omega, by omega, by
      have : 0 ≤ b * ((-a) / b) := by omega
      omega⟩, fun hl => ?_, fun hl => ?_⟩
    · refine ediv_unique _ _ _ hb ?_ ?_
      · rw [e, Int.mul_sub, Int.mul_neg]; omega
      · rw [e, Int.mul_sub, Int.mul_neg]; omega
    · refine ediv_unique _ _ _ hb ?_ ?_
      · rw [e, Int.mul_neg]; omega
      · rw [e, Int.mul_neg]; omega
  · have e := hp h
    obtain ⟨h1, h2⟩ := ediv_facts a b hb
    have h0 : 0 ≤ a / b := Int.ediv_nonneg (by omega) (by omega)
    have h3 : a / b ≤ b * (a / b) := by
      have := Int.mul_le_mul_of_nonneg_right (c := a / b) hb h0
      omega
    have e2 : a.tdiv b * b = b * (a / b) := by rw [e, Int.mul_comm]
    refine ⟨fun _ => ⟨by omega, by omega, by omega, by omega⟩, fun _ => by omega, fun hl => by omega, fun _ => e.symm⟩

def stepsLo (l fr side : Int) : Int := max ((l - fr) / side) 0
def stepsHi (h fr side many : Int) : Int := min ((h - fr) / side) (many - 1)
def stepsMo (l h fr side many : Int) : Bool := decide ((l - fr) / side < 0) || decide (many ≤ (h - fr) / side)
end Go.Proofs.YtmglbegbijofkaaGreatDoor
/- Plain functions on lists: the cells that an area meets. -/
namespace Go.Proofs.YtmglbegbijofkaaGreatDoor
/-- the cells of the first i columns in row y -/
def rowL (c y cols : Int) (i : Nat) : List Int := (List.range i).map fun (j : Nat) => y * cols + (c + (j : Int))
/-- the cells of the first k rows -/
def rowsL (c r cols : Int) (nx k : Nat) : List Int := (List.range k).flatMap fun (j : Nat) => rowL c (r + (j : Int)) cols nx
theorem rowL_succ (c y cols : Int) (i : Nat) : rowL c y cols (i + 1) = rowL c y cols i ++ [y * cols + (c + (i : Int))] := by
  simp [rowL, List.range_succ]
theorem rowsL_succ (c r cols : Int) (nx k : Nat) : rowsL c r cols nx (k + 1) = rowsL c r cols nx k ++ rowL c (r + (k : Int)) cols nx := by
  simp [rowsL, List.range_succ, List.flatMap_append]
theorem rowL_length (c y cols : Int) (i : Nat) : (rowL c y cols i).length = i := by simp [rowL]
theorem rowsL_length (c r cols : Int) (nx k : Nat) : (rowsL c r cols nx k).length = k * nx := by
  induction k with
  | zero => simp [rowsL]
  | succ k ih => rw [rowsL_succ, List.length_append, ih, rowL_length, Nat.succ_mul]
theorem stepsLo_bd (l fr side : Int) (h1 : -2000000000 ≤ l) (h2 : l ≤ 2000000000) (h5 : -2000000000 ≤ fr) (h6 : fr ≤ 2000000000) (h7 : 1 ≤ side) : 0 ≤ stepsLo l fr side ∧ stepsLo l fr side ≤ 4000000000 := by
  unfold stepsLo
  obtain ⟨k1, k2⟩ := ediv_facts (l - fr) side h7
  have : (l - fr) / side ≤ 4000000000 := by
    rcases Int.lt_or_le ((l - fr) / side) 0 with h | h
    · omega
    · have := Int.mul_le_mul_of_nonneg_right (c := (l - fr) / side) h7 h
      omega
  omega
theorem stepsHi_bd (l fr side many : Int) (h1 : -2000000000 ≤ l) (h2 : l ≤ 2000000000) (h5 : -2000000000 ≤ fr) (h6 : fr ≤ 2000000000) (h7 : 1 ≤ side) (h8 : 1 ≤ many) : -4000000001 ≤ stepsHi l fr side many ∧ stepsHi l fr side many ≤ many - 1 := by
  unfold stepsHi
  obtain ⟨k1, k2⟩ := ediv_facts (l - fr) side h7
  have : -4000000001 ≤ (l - fr) / side := by
    rcases Int.lt_or_le ((l - fr) / side) (-1) with h | h
    · have := Int.mul_le_mul_of_nonneg_right (c := -((l - fr) / side + 1)) h7 (by omega)
      have e : side * -((l - fr) / side + 1) = -(side * ((l - fr) / side)) - side := by rw [Int.mul_neg, Int.mul_add]; omega
      omega
    · omega
  omega
end Go.Proofs.YtmglbegbijofkaaGreatDoor
/- Plain: the first index at which something is so; what Check and asked return. -/
namespace Go.Proofs.YtmglbegbijofkaaGreatDoor
def idxP (p : Int → Bool) : List Int → Int → Int
  | [], _ => -1
  | z :: zs, k => if p z then k else idxP p zs (k + 1)
theorem idxP_drop (p : Int → Bool) (zs : List Int) (i : Nat) (h : i < zs.length) :
    idxP p (zs.drop i) i = if p zs[i] then (i : Int) else idxP p (zs.drop (i + 1)) ((i + 1 : Nat) : Int) := by
  rw [List.drop_eq_getElem_cons h]
  simp [idxP]
theorem idxP_end (p : Int → Bool) (zs : List Int) (k : Int) : idxP p (zs.drop zs.length) k = -1 := by simp [idxP]
theorem idxP_bd (p : Int → Bool) (zs : List Int) (k : Int) (hk : 0 ≤ k) : -1 ≤ idxP p zs k ∧ idxP p zs k ≤ k + zs.length := by
  induction zs generalizing k with
  | nil => simp [idxP]; omega
  | cons z zs ih =>
    simp only [idxP]
    split
    · simp; omega
    · have := ih (k + 1) (by omega)
      simp; omega
def outP (z : Int) : Bool := outB z 0 1000000
/-- Check's first test -/
def mapB (cx cy size cols rows : Int) : Bool := offB cx || offB cy || outB size 1 100000 || outB cols 1 20 || outB rows 1 20
def chkPart (cx cy size cols rows : Int) (zs : List Int) : Int := if mapB cx cy size cols rows then 1 else if (zs.length : Int) ≠ cols * rows then 2 else if 0 ≤ idxP outP zs 0 then 2 else 0
def chkAt (cx cy size cols rows : Int) (zs : List Int) : Int := if mapB cx cy size cols rows then 0 else if (zs.length : Int) ≠ cols * rows then 0 else if 0 ≤ idxP outP zs 0 then idxP outP zs 0 else 0
def chkE (cx cy size cols rows : Int) (zs : List Int) : Int := if mapB cx cy size cols rows then 7 else if (zs.length : Int) ≠ cols * rows then 2 else if 0 ≤ idxP outP zs 0 then 7 else 0
theorem mapB_false {cx cy size cols rows : Int} : mapB cx cy size cols rows = false ↔ (-2000000000 ≤ cx ∧ cx ≤ 2000000000) ∧ (-2000000000 ≤ cy ∧ cy ≤ 2000000000) ∧ (1 ≤ size ∧ size ≤ 100000) ∧ (1 ≤ cols ∧ cols ≤ 20) ∧ (1 ≤ rows ∧ rows ≤ 20) := by
  unfold mapB; simp [offB_false, outB_false]; omega
def askE (cx cy size cols rows : Int) (zs : List Int) (xl xh yl yh lethal cap : Int) : Int :=
  if chkE cx cy size cols rows zs ≠ 0 then chkE cx cy size cols rows zs else if wildB xl xh yl yh then 7 else if outB lethal 0 10000 || outB cap 1 1000000 then 2 else 0
theorem chkE_zero {cx cy size cols rows : Int} {zs : List Int} (h : chkE cx cy size cols rows zs = 0) : mapB cx cy size cols rows = false ∧ (zs.length : Int) = cols * rows ∧ idxP outP zs 0 < 0 := by
  unfold chkE at h
  split at h
  · omega
  · rename_i h1
    split at h
    · omega
    · split at h
      · omega
      · exact ⟨by simpa using h1, by omega, by omega⟩
theorem idxP_none {p : Int → Bool} : ∀ {zs : List Int} {k : Int}, 0 ≤ k → idxP p zs k < 0 → ∀ z ∈ zs, p z = false
  | [], _, _, _ => by simp
  | z :: zs, k, hk, h => by
    simp only [idxP] at h
    split at h
    · omega
    · rename_i hz
      intro y hy
      rcases List.mem_cons.1 hy with rfl | hy
      · simpa using hz
      · exact idxP_none (by omega) h y hy
end Go.Proofs.YtmglbegbijofkaaGreatDoor
/- Plain: spans in common. -/
namespace Go.Proofs.YtmglbegbijofkaaGreatDoor
def comLo (lo : Int) (ss : List (Int × Int)) : Int := ss.foldl (fun a s => max a s.1) lo
def comHi (hi : Int) (ss : List (Int × Int)) : Int := ss.foldl (fun a s => min a s.2) hi
theorem comLo_drop (lo : Int) (ss : List (Int × Int)) (k : Nat) (h : k < ss.length) : comLo lo (ss.drop k) = comLo (max lo ss[k].1) (ss.drop (k + 1)) := by
  rw [List.drop_eq_getElem_cons h]; rfl
theorem comHi_drop (hi : Int) (ss : List (Int × Int)) (k : Nat) (h : k < ss.length) : comHi hi (ss.drop k) = comHi (min hi ss[k].2) (ss.drop (k + 1)) := by
  rw [List.drop_eq_getElem_cons h]; rfl
end Go.Proofs.YtmglbegbijofkaaGreatDoor
/- Plain: which strings are names. -/
namespace Go.Proofs.YtmglbegbijofkaaGreatDoor
def chBad (i : Nat) (x : Int) : Bool := !(decide (97 ≤ x) && decide (x ≤ 122)) && (decide (i = 0) || (!decide (x = 45) && !(decide (48 ≤ x) && decide (x ≤ 57))))
def badFrom : List UInt8 → Nat → Bool
  | [], _ => false
  | c :: r, k => chBad k c.toNat || badFrom r (k + 1)
theorem badFrom_drop (l : List UInt8) (k : Nat) (h : k < l.length) : badFrom (l.drop k) k = (chBad k (l.getD k 0).toNat || badFrom (l.drop (k + 1)) (k + 1)) := by
  rw [List.drop_eq_getElem_cons h]
  simp [badFrom, List.getElem?_eq_getElem h]
theorem badFrom_end (l : List UInt8) (k : Nat) : badFrom (l.drop l.length) k = false := by simp [badFrom]
def nameB (l : List UInt8) : Bool := !badFrom l 0 && !outB l.length 1 24
end Go.Proofs.YtmglbegbijofkaaGreatDoor
/- Plain: crafts and their sights. -/
namespace Go.Proofs.YtmglbegbijofkaaGreatDoor
/-- a sight: tick, place, height, error -/
structure Sight where
  t : Int
  x : Int
  y : Int
  h : Int
  e : Int
def Sight.zero : Sight := ⟨0, 0, 0, 0, 0⟩
def sgAt (ss : List Sight) (k : Nat) : Sight := ss.getD k Sight.zero
def sgEarly (ss : List Sight) (k : Nat) : Bool := decide (0 < k) && decide ((sgAt ss k).t ≤ (sgAt ss (k - 1)).t)
def sgBad (s : Sight) : Bool := outB s.t 0 100000 || offB s.x || offB s.y || outB s.h 0 2000000000 || outB s.e 0 2000000000
/-- the first sight with an error among n from k on -/
def sgI (ss : List Sight) : Nat → Nat → Int
  | 0, _ => 0
  | n + 1, k => if sgEarly ss k then k else if sgBad (sgAt ss k) then k else sgI ss n (k + 1)
def sgE (ss : List Sight) : Nat → Nat → Int
  | 0, _ => 0
  | n + 1, k => if sgEarly ss k then 2 else if sgBad (sgAt ss k) then 7 else sgE ss n (k + 1)
def crB (speed climb low high : Int) : Bool := outB speed 0 1000000 || outB climb 0 1000000 || outB high 0 2000000000 || outB low 0 high
def crI (nm : List UInt8) (speed climb low high : Int) (ss : List Sight) : Int :=
  if !nameB nm then -1 else if crB speed climb low high then -1 else if outB ss.length 1 10 then -1 else sgI ss ss.length 0
def crE (nm : List UInt8) (speed climb low high : Int) (ss : List Sight) : Int :=
  if !nameB nm then 6 else if crB speed climb low high then 7 else if outB ss.length 1 10 then 3 else sgE ss ss.length 0
theorem crB_false {speed climb low high : Int} : crB speed climb low high = false ↔ (0 ≤ speed ∧ speed ≤ 1000000) ∧ (0 ≤ climb ∧ climb ≤ 1000000) ∧ (high ≤ 2000000000) ∧ 0 ≤ low ∧ low ≤ high := by
  unfold crB; simp [outB_false]; omega
theorem sgBad_false {s : Sight} : sgBad s = false ↔ (0 ≤ s.t ∧ s.t ≤ 100000) ∧ (-2000000000 ≤ s.x ∧ s.x ≤ 2000000000) ∧ (-2000000000 ≤ s.y ∧ s.y ≤ 2000000000) ∧ (0 ≤ s.h ∧ s.h ≤ 2000000000) ∧ (0 ≤ s.e ∧ s.e ≤ 2000000000) := by
  unfold sgBad; simp [outB_false, offB_false]; omega
end Go.Proofs.YtmglbegbijofkaaGreatDoor
/- Plain: where a craft can be, by its sights. -/
namespace Go.Proofs.YtmglbegbijofkaaGreatDoor
def far (tick : Int) (s : Sight) : Int := max (tick - s.t) (s.t - tick)
def sgX (speed tick : Int) (s : Sight) : Int × Int := (s.x - (s.e + far tick s * speed), s.x + (s.e + far tick s * speed))
def sgY (speed tick : Int) (s : Sight) : Int × Int := (s.y - (s.e + far tick s * speed), s.y + (s.e + far tick s * speed))
def sgZ (climb tick : Int) (s : Sight) : Int × Int := (s.h - (s.e + far tick s * climb), s.h + (s.e + far tick s * climb))
theorem take_snoc_map {α β : Type} (f : α → β) (ss : List α) (k : Nat) (h : k < ss.length) : (ss.take (k + 1)).map f = (ss.take k).map f ++ [f ss[k]] := by
  rw [List.take_succ_eq_append_getElem h, List.map_append]; rfl
theorem far_bd (tick : Int) (s : Sight) (h1 : 0 ≤ tick) (h2 : tick ≤ 100000) (h3 : 0 ≤ s.t) (h4 : s.t ≤ 100000) : 0 ≤ far tick s ∧ far tick s ≤ 100000 := by
  unfold far; omega
theorem mul_bd (a b A B : Int) (h1 : 0 ≤ a) (h2 : a ≤ A) (h3 : 0 ≤ b) (h4 : b ≤ B) : 0 ≤ a * b ∧ a * b ≤ A * B :=
  ⟨Int.mul_nonneg h1 h3, Int.mul_le_mul h2 h4 h3 (by omega)⟩
def comL : List (Int × Int) → Int
  | [] => 0
  | p :: t => comLo p.1 t
def comH : List (Int × Int) → Int
  | [] => 0
  | p :: t => comHi p.2 t
def whXL (speed tick : Int) (ss : List Sight) : Int := comL (ss.map (sgX speed tick))
def whXH (speed tick : Int) (ss : List Sight) : Int := comH (ss.map (sgX speed tick))
def whYL (speed tick : Int) (ss : List Sight) : Int := comL (ss.map (sgY speed tick))
def whYH (speed tick : Int) (ss : List Sight) : Int := comH (ss.map (sgY speed tick))
def whZL (climb low tick : Int) (ss : List Sight) : Int := comLo low (ss.map (sgZ climb tick))
def whZH (climb high tick : Int) (ss : List Sight) : Int := comHi high (ss.map (sgZ climb tick))
def whB (speed climb low high tick : Int) (ss : List Sight) : Bool :=
  decide (whXL speed tick ss ≤ whXH speed tick ss) && decide (whYL speed tick ss ≤ whYH speed tick ss) && decide (whZL climb low tick ss ≤ whZH climb high tick ss)
end Go.Proofs.YtmglbegbijofkaaGreatDoor
/- Plain: the first tick at which a craft can be in a room. -/
namespace Go.Proofs.YtmglbegbijofkaaGreatDoor
/-- a valid craft, as the walks use it -/
structure CraftOK (speed climb low high : Int) (ss : List Sight) : Prop where
  s0 : 0 ≤ speed
  s1 : speed ≤ 1000000
  c0 : 0 ≤ climb
  c1 : climb ≤ 1000000
  l0 : 0 ≤ low
  l1 : low ≤ high
  h1 : high ≤ 2000000000
  n0 : 0 < ss.length
  n1 : ss.length ≤ 10
  sg : ∀ k, k < ss.length → sgBad (sgAt ss k) = false
theorem sgE_zero (ss : List Sight) : ∀ (n k : Nat), sgE ss n k = 0 → ∀ j, k ≤ j → j < k + n → sgBad (sgAt ss j) = false
  | 0, k, _, j, h1, h2 => by omega
  | n + 1, k, h, j, h1, h2 => by
    simp only [sgE] at h
    split at h
    · omega
    · split at h
      · omega
      · rename_i hb
        by_cases e : j = k
        · subst e; simpa using hb
        · exact sgE_zero ss n (k + 1) h j (by omega) (by omega)
theorem craft_ok {nm : List UInt8} {speed climb low high : Int} {ss : List Sight} (h : crE nm speed climb low high ss = 0) : CraftOK speed climb low high ss := by
  unfold crE at h
  split at h
  · omega
  · split at h
    · omega
    · split at h
      · omega
      · rename_i h1 h2 h3
        have k2 := crB_false.1 (by simpa using h2)
        have k3 := outB_false.1 (by simpa using h3)
        exact ⟨by omega, by omega, by omega, by omega, by omega, by omega, by omega, by omega, by omega, fun k hk => sgE_zero ss ss.length 0 h k (by omega) (by omega)⟩
/-- the room of a craft and another one have nothing in common, in one of three ways -/
def roomB (speed climb low high t : Int) (ss : List Sight) (a b c d e f : Int) : Bool :=
  !decide (min (whXH speed t ss) b < max (whXL speed t ss) a) && !decide (min (whYH speed t ss) d < max (whYL speed t ss) c) && !decide (min (whZH climb high t ss) f < max (whZL climb low t ss) e)
/-- n ticks from t on: the first at which the craft can be in the room o -/
def firstT (speed climb low high : Int) (ss : List Sight) (o : Int → Int × Int × Int × Int × Int × Int) : Nat → Int → Int
  | 0, _ => -1
  | n + 1, t => if !whB speed climb low high t ss then 0 else if roomB speed climb low high t ss (o t).1 (o t).2.1 (o t).2.2.1 (o t).2.2.2.1 (o t).2.2.2.2.1 (o t).2.2.2.2.2 then t else firstT speed climb low high ss o n (t + 1)
def firstE (speed climb low high : Int) (ss : List Sight) (o : Int → Int × Int × Int × Int × Int × Int) : Nat → Int → Int
  | 0, _ => 0
  | n + 1, t => if !whB speed climb low high t ss then 9 else if roomB speed climb low high t ss (o t).1 (o t).2.1 (o t).2.2.1 (o t).2.2.2.1 (o t).2.2.2.2.1 (o t).2.2.2.2.2 then 0 else firstE speed climb low high ss o n (t + 1)
end Go.Proofs.YtmglbegbijofkaaGreatDoor
/- Plain: impacts. -/
namespace Go.Proofs.YtmglbegbijofkaaGreatDoor
/-- an impact: piece, area, ticks -/
structure Impact where
  p : Int
  xl : Int
  xh : Int
  yl : Int
  yh : Int
  tl : Int
  th : Int
def Impact.zero : Impact := ⟨0, 0, 0, 0, 0, 0, 0⟩
def imAt (l : List Impact) (k : Nat) : Impact := l.getD k Impact.zero
def strangeI (x : Impact) : Bool := strangeB x.p x.xl x.xh x.yl x.yh x.tl x.th
/-- the first strange one among n from k on -/
def strIdx (l : List Impact) : Nat → Nat → Int
  | 0, _ => -1
  | n + 1, k => if strangeI (imAt l k) then k else strIdx l n (k + 1)
theorem strIdx_any (l : List Impact) : ∀ (n k : Nat), k + n = l.length → (0 ≤ strIdx l n k ↔ (l.drop k).any strangeI = true)
  | 0, k, h => by rw [show k = l.length by omega]; simp [strIdx]
  | n + 1, k, h => by
    have hk : k < l.length := by omega
    have e : imAt l k = l[k] := by simp [imAt, hk]
    rw [List.drop_eq_getElem_cons hk, List.any_cons]
    simp only [strIdx, e]
    split
    · rename_i hs; simp [hs]
    · rename_i hs; simp [hs, strIdx_any l n (k + 1) (by omega)]
end Go.Proofs.YtmglbegbijofkaaGreatDoor
/- Plain: the people of a spread. -/
namespace Go.Proofs.YtmglbegbijofkaaGreatDoor
def ppl (zs : List Int) (ps : List (Int × Int)) : Int := (ps.map fun p => p.2 * zs.getD p.1.toNat 0).sum
theorem ppl_snoc (zs : List Int) (ps : List (Int × Int)) (p : Int × Int) : ppl zs (ps ++ [p]) = ppl zs ps + p.2 * zs.getD p.1.toNat 0 := by simp [ppl]
/-- parts that are at most a million each, in cells that are there -/
def PartsOK (zs : List Int) (ps : List (Int × Int)) : Prop := ∀ p ∈ ps, 0 ≤ p.1 ∧ p.1 < zs.length ∧ 0 ≤ p.2 ∧ p.2 ≤ 1000000
theorem ppl_bd (zs : List Int) (hz : ∀ z ∈ zs, 0 ≤ z ∧ z ≤ 1000000) : ∀ (ps : List (Int × Int)), PartsOK zs ps → 0 ≤ ppl zs ps ∧ ppl zs ps ≤ ps.length * 1000000000000
  | [], _ => by simp [ppl]
  | p :: ps, h => by
    have ih := ppl_bd zs hz ps (fun q hq => h q (by simp [hq]))
    obtain ⟨h1, h2, h3, h4⟩ := h p (by simp)
    have hlt : p.1.toNat < zs.length := by omega
    have hz1 := hz zs[p.1.toNat] (List.getElem_mem hlt)
    have e : zs.getD p.1.toNat 0 = zs[p.1.toNat] := by simp [hlt]
    have e2 : ppl zs (p :: ps) = p.2 * zs[p.1.toNat] + ppl zs ps := by simp [ppl, hlt]
    have b1 := Int.mul_nonneg h3 hz1.1
    have b2 := Int.mul_le_mul h4 hz1.2 hz1.1 (by omega : (0 : Int) ≤ 1000000)
    rw [e2, List.length_cons]
    push_cast
    omega
end Go.Proofs.YtmglbegbijofkaaGreatDoor
/- Plain: two fractions compared by their whole parts, then by their rests the other way round. -/
namespace Go.Proofs.YtmglbegbijofkaaGreatDoor
theorem fr_lt (a b c d : Int) (hb : 0 < b) (hd : 0 < d) (h : a / b < c / d) : a * d < c * b := by
  have h1 : a < (a / b + 1) * b := Int.lt_ediv_add_one_mul_self a hb
  have h2 : c / d * d ≤ c := Int.ediv_mul_le c (by omega)
  have h3 : a * d < (a / b + 1) * b * d := Int.mul_lt_mul_of_pos_right h1 hd
  have h4 : (a / b + 1) * (b * d) ≤ (c / d) * (b * d) := Int.mul_le_mul_of_nonneg_right (by omega) (Int.le_of_lt (Int.mul_pos hb hd))
  have h5 : (c / d * d) * b ≤ c * b := Int.mul_le_mul_of_nonneg_right h2 (by omega)
  have e1 : (a / b + 1) * b * d = (a / b + 1) * (b * d) := Int.mul_assoc ..
  have e2 : (c / d) * (b * d) = (c / d * d) * b := by rw [Int.mul_comm b d, Int.mul_assoc]
  omega
theorem fr_eq (a b c d : Int) (h : a / b = c / d) : a * d ≤ c * b ↔ (a % b) * d ≤ (c % d) * b := by
  have h1 : a % b + b * (a / b) = a := Int.emod_add_mul_ediv a b
  have h2 : c % d + d * (c / d) = c := Int.emod_add_mul_ediv c d
  have e1 : a * d = (a % b) * d + b * (a / b) * d := by
    have : a * d = (a % b + b * (a / b)) * d := by rw [h1]
    rw [this, Int.add_mul]
  have e2 : c * b = (c % d) * b + d * (c / d) * b := by
    have : c * b = (c % d + d * (c / d)) * b := by rw [h2]
    rw [this, Int.add_mul]
  have e3 : d * (c / d) * b = b * (a / b) * d := by
    rw [h, Int.mul_comm d, Int.mul_assoc, Int.mul_comm d b, Int.mul_comm b (c / d), Int.mul_assoc]
  omega
theorem fr_swap (a b c d : Int) : d * a ≤ b * c ↔ a * d ≤ c * b := by rw [Int.mul_comm d a, Int.mul_comm b c]
end Go.Proofs.YtmglbegbijofkaaGreatDoor
/- Plain: how Most gives away the parts. -/
namespace Go.Proofs.YtmglbegbijofkaaGreatDoor
def gvStep (zs : List Int) (cap : Int) (st : List (Int × Int) × Int × Int) (c : Int) : List (Int × Int) × Int × Int :=
  if 0 < min st.2.1 cap then (st.1 ++ [(c, min st.2.1 cap)], st.2.1 - min st.2.1 cap, zs.getD c.toNat 0) else (st.1, st.2.1 - min st.2.1 cap, st.2.2)
def gv (zs : List Int) (cap : Int) (S : List Int) : List (Int × Int) × Int × Int := S.foldl (gvStep zs cap) ([], 1000000, 0)
theorem gv_nil (zs : List Int) (cap : Int) : gv zs cap [] = ([], 1000000, 0) := rfl
theorem gv_snoc (zs : List Int) (cap : Int) (S : List Int) (c : Int) : gv zs cap (S ++ [c]) = gvStep zs cap (gv zs cap S) c := by simp [gv]
structure GvOK (zs : List Int) (k : Nat) (st : List (Int × Int) × Int × Int) : Prop where
  l0 : 0 ≤ st.2.1
  l1 : st.2.1 ≤ 1000000
  len : st.1.length ≤ k
  parts : PartsOK zs st.1
  p0 : 0 ≤ st.2.2
  p1 : st.2.2 ≤ 1000000
theorem gvStep_ok {zs : List Int} (hz : ∀ z ∈ zs, 0 ≤ z ∧ z ≤ 1000000) {cap : Int} (h1 : 1 ≤ cap) {k : Nat} {st : List (Int × Int) × Int × Int} (h : GvOK zs k st) {c : Int} (hc : 0 ≤ c ∧ c < zs.length) : GvOK zs (k + 1) (gvStep zs cap st c) := by
  obtain ⟨a, b, d, e, f, g⟩ := h
  unfold gvStep
  split
  · refine ⟨by simp only; omega, by simp only; omega, by simp; omega, fun p hp => ?_, ?_, ?_⟩
    · simp only [List.mem_append, List.mem_singleton] at hp
      rcases hp with hp | rfl
      · exact e p hp
      · exact ⟨hc.1, hc.2, by simp only; omega, by simp only; omega⟩
    · have hl : c.toNat < zs.length := by omega
      have := hz zs[c.toNat] (List.getElem_mem hl)
      simp only; rw [List.getD_eq_getElem?_getD, List.getElem?_eq_getElem hl]; exact this.1
    · have hl : c.toNat < zs.length := by omega
      have := hz zs[c.toNat] (List.getElem_mem hl)
      simp only; rw [List.getD_eq_getElem?_getD, List.getElem?_eq_getElem hl]; exact this.2
  · exact ⟨by simp only; omega, by simp only; omega, by simp only; omega, e, f, g⟩
theorem gv_ok {zs : List Int} (hz : ∀ z ∈ zs, 0 ≤ z ∧ z ≤ 1000000) {cap : Int} (h1 : 1 ≤ cap) (S : List Int) (hS : ∀ c ∈ S, 0 ≤ c ∧ c < (zs.length : Int)) : ∀ k, k ≤ S.length → GvOK zs k (gv zs cap (S.take k))
  | 0, _ => by simp only [List.take_zero, gv_nil]; exact ⟨by simp, by simp, by simp, fun p hp => by simp at hp, by simp, by simp⟩
  | k + 1, hk => by
    rw [List.take_succ_eq_append_getElem (by omega), gv_snoc]
    exact gvStep_ok hz h1 (gv_ok hz h1 S hS k (by omega)) (hS _ (List.getElem_mem _))
theorem fold_ne (zs : List Int) (cap : Int) : ∀ (S : List Int) (st : List (Int × Int) × Int × Int), st.1 ≠ [] → (S.foldl (gvStep zs cap) st).1 ≠ []
  | [], st, h => h
  | c :: S, st, h => by
    rw [List.foldl_cons]
    refine fold_ne zs cap S _ ?_
    unfold gvStep; split
    · simp
    · exact h
theorem gv_ne (zs : List Int) (cap : Int) (h1 : 1 ≤ cap) (S : List Int) (hS : S ≠ []) : (gv zs cap S).1 ≠ [] := by
  cases S with
  | nil => exact absurd rfl hS
  | cons c S =>
    unfold gv
    rw [List.foldl_cons]
    refine fold_ne zs cap S _ ?_
    unfold gvStep
    rw [if_pos (by simp only; omega)]
    simp
theorem ppl_perm (zs : List Int) {a b : List (Int × Int)} (h : a.Perm b) : ppl zs a = ppl zs b := by
  induction h with
  | nil => rfl
  | cons x _ ih => simp only [ppl, List.map_cons, List.sum_cons] at *; omega
  | swap x y l => simp only [ppl, List.map_cons, List.sum_cons] at *; omega
  | trans _ _ ih1 ih2 => exact ih1.trans ih2
theorem partsOK_perm {zs : List Int} {a b : List (Int × Int)} (h : a.Perm b) (hb : PartsOK zs b) : PartsOK zs a := fun p hp => hb p (h.mem_iff.1 hp)
end Go.Proofs.YtmglbegbijofkaaGreatDoor
/- Plain: the cells that the reference finds are those of the rows. -/
namespace Go.Proofs.YtmglbegbijofkaaGreatDoor
/-- the numbers below n that lie from a to b -/
theorem filter_between (a b : Int) : ∀ n : Nat, ((List.range n).filter fun (c : Nat) => decide (a ≤ (c : Int)) && decide ((c : Int) ≤ b)).map (fun (c : Nat) => (c : Int)) = (List.range (min b ((n : Int) - 1) - max a 0 + 1).toNat).map fun (j : Nat) => max a 0 + (j : Int)
  | 0 => by
    have : (min b (((0 : Nat) : Int) - 1) - max a 0 + 1).toNat = 0 := by omega
    rw [this]; simp
  | n + 1 => by
    have ih := filter_between a b n
    rw [List.range_succ, List.filter_append, List.map_append, ih]
    by_cases h : a ≤ (n : Int) ∧ (n : Int) ≤ b
    · have e : (min b (((n + 1 : Nat) : Int) - 1) - max a 0 + 1).toNat = (min b ((n : Int) - 1) - max a 0 + 1).toNat + 1 := by omega
      have e2 : max a 0 + (((min b ((n : Int) - 1) - max a 0 + 1).toNat : Nat) : Int) = (n : Int) := by omega
      rw [e, List.range_succ, List.map_append]
      simp [h.1, h.2]
      omega
    · have e : (min b (((n + 1 : Nat) : Int) - 1) - max a 0 + 1).toNat = (min b ((n : Int) - 1) - max a 0 + 1).toNat := by omega
      rw [e]
      have : (decide (a ≤ (n : Int)) && decide ((n : Int) ≤ b)) = false := by
        rw [Bool.and_eq_false_iff, decide_eq_false_iff_not, decide_eq_false_iff_not]; omega
      simp [this]
theorem range_mul (c : Nat) : ∀ r : Nat, List.range (r * c) = (List.range r).flatMap fun i => (List.range c).map fun j => i * c + j
  | 0 => by simp
  | r + 1 => by
    rw [Nat.succ_mul, List.range_add, range_mul c r, List.range_succ, List.flatMap_append]
    simp
theorem le_floor (s x c : Int) (hs : 1 ≤ s) : x < c * s + s ↔ x / s ≤ c := by
  have e : c * s + s = (c + 1) * s := by rw [Int.add_mul, Int.one_mul]
  rw [e]
  constructor
  · intro h
    have := (Int.ediv_lt_iff_lt_mul (show 0 < s by omega)).2 h
    omega
  · intro h
    exact (Int.ediv_lt_iff_lt_mul (show 0 < s by omega)).1 (by omega)
theorem floor_le (s x c : Int) (hs : 1 ≤ s) : c * s ≤ x ↔ c ≤ x / s := (Int.le_ediv_iff_mul_le (show 0 < s by omega)).symm
/-- ref's test of a cell, by its row and its column -/
def meetsB (cx cy s xl xh yl yh r c : Int) : Bool := decide (xl < cx + c * s + s) && decide (cx + c * s ≤ xh) && (decide (yl < cy + r * s + s) && decide (cy + r * s ≤ yh))
theorem meets_eq (cx cy s xl xh yl yh r c : Int) (hs : 1 ≤ s) : meetsB cx cy s xl xh yl yh r c = ((decide ((xl - cx) / s ≤ c) && decide (c ≤ (xh - cx) / s)) && (decide ((yl - cy) / s ≤ r) && decide (r ≤ (yh - cy) / s))) := by
  have h1 := le_floor s (xl - cx) c hs
  have h2 := floor_le s (xh - cx) c hs
  have h3 := le_floor s (yl - cy) r hs
  have h4 := floor_le s (yh - cy) r hs
  unfold meetsB
  rw [Bool.eq_iff_iff]
  simp only [Bool.and_eq_true, decide_eq_true_eq, ← h1, ← h2, ← h3, ← h4]
  omega
theorem filter_flatMap' {α β : Type} (p : β → Bool) (f : α → List β) : ∀ l : List α, (l.flatMap f).filter p = l.flatMap fun a => (f a).filter p
  | [] => rfl
  | a :: l => by simp [filter_flatMap' p f l]
theorem flatMap_if {α β : Type} (p : α → Bool) (f : α → List β) : ∀ l : List α, (l.flatMap fun a => if p a then f a else []) = (l.filter p).flatMap f
  | [] => rfl
  | a :: l => by
    have := flatMap_if p f l
    cases h : p a <;> simp [h, this]
/-- the cells that ref finds are those of the rows -/
theorem cells_ref (cx cy s xl xh yl yh : Int) (cols rows : Nat) (hs : 1 ≤ s) (hc : 1 ≤ cols) :
    ((List.range (rows * cols)).filter fun (i : Nat) => meetsB cx cy s xl xh yl yh ((i / cols : Nat) : Int) ((i % cols : Nat) : Int)).map (fun (i : Nat) => (i : Int)) =
      rowsL (stepsLo xl cx s) (stepsLo yl cy s) cols (stepsHi xh cx s cols - stepsLo xl cx s + 1).toNat (stepsHi yh cy s rows - stepsLo yl cy s + 1).toNat := by
  rw [range_mul, filter_flatMap']
  have hrow : ∀ r : Nat, ((List.range cols).map fun j => r * cols + j).filter (fun (i : Nat) => meetsB cx cy s xl xh yl yh ((i / cols : Nat) : Int) ((i % cols : Nat) : Int)) =
      if (decide ((yl - cy) / s ≤ (r : Int)) && decide ((r : Int) ≤ (yh - cy) / s)) then ((List.range cols).filter fun (c : Nat) => decide ((xl - cx) / s ≤ (c : Int)) && decide ((c : Int) ≤ (xh - cx) / s)).map (fun j => r * cols + j) else [] := fun r => by
    rw [List.filter_map]
    have e : (List.range cols).filter ((fun (i : Nat) => meetsB cx cy s xl xh yl yh ((i / cols : Nat) : Int) ((i % cols : Nat) : Int)) ∘ fun j => r * cols + j) = (List.range cols).filter fun (c : Nat) => (decide ((xl - cx) / s ≤ (c : Int)) && decide ((c : Int) ≤ (xh - cx) / s)) && (decide ((yl - cy) / s ≤ (r : Int)) && decide ((r : Int) ≤ (yh - cy) / s)) := by
      refine List.filter_congr fun j hj => ?_
      have hj' : j < cols := by simpa using hj
      have d1 : (r * cols + j) / cols = r := by rw [Nat.add_comm, Nat.add_mul_div_right _ _ (by omega), Nat.div_eq_of_lt hj']; omega
      have d2 : (r * cols + j) % cols = j := by rw [Nat.add_comm, Nat.add_mul_mod_self_right, Nat.mod_eq_of_lt hj']
      simp only [Function.comp]
      rw [d1, d2, meets_eq _ _ _ _ _ _ _ _ _ hs]
    rw [e]
    cases h : (decide ((yl - cy) / s ≤ (r : Int)) && decide ((r : Int) ≤ (yh - cy) / s))
    · simp
    · simp
  simp only [hrow]
  rw [flatMap_if, List.map_flatMap]
  have hx := filter_between ((xl - cx) / s) ((xh - cx) / s) cols
  have hy := filter_between ((yl - cy) / s) ((yh - cy) / s) rows
  generalize ((List.range cols).filter fun (c : Nat) => decide ((xl - cx) / s ≤ (c : Int)) && decide ((c : Int) ≤ (xh - cx) / s)) = Cs at *
  generalize ((List.range rows).filter fun (c : Nat) => decide ((yl - cy) / s ≤ (c : Int)) && decide ((c : Int) ≤ (yh - cy) / s)) = Rs at *
  have e1 : (Rs.flatMap fun a => (Cs.map fun j => a * cols + j).map fun (i : Nat) => (i : Int)) = (Rs.map fun (r : Nat) => (r : Int)).flatMap fun (r : Int) => (Cs.map fun (c : Nat) => (c : Int)).map fun (c : Int) => r * (cols : Int) + c := by
    rw [List.flatMap_map]
    congr 1
    funext r
    simp
  rw [e1, hx, hy, List.flatMap_map]
  unfold rowsL rowL stepsLo stepsHi
  congr 1
  funext j
  simp
end Go.Proofs.YtmglbegbijofkaaGreatDoor
/- Plain: what spans have in common, one span more. -/
namespace Go.Proofs.YtmglbegbijofkaaGreatDoor
theorem comLo_snoc (lo : Int) (l : List (Int × Int)) (p : Int × Int) : comLo lo (l ++ [p]) = max (comLo lo l) p.1 := by simp [comLo]
theorem comHi_snoc (hi : Int) (l : List (Int × Int)) (p : Int × Int) : comHi hi (l ++ [p]) = min (comHi hi l) p.2 := by simp [comHi]
theorem comL_one (p : Int × Int) : comL ([] ++ [p]) = max p.1 p.1 := by simp [comL, comLo]
theorem comH_one (p : Int × Int) : comH ([] ++ [p]) = min p.2 p.2 := by simp [comH, comHi]
theorem comL_snoc (l : List (Int × Int)) (p : Int × Int) (h : l ≠ []) : comL (l ++ [p]) = max (comL l) p.1 := by
  cases l with
  | nil => exact absurd rfl h
  | cons q t => exact comLo_snoc q.1 t p
theorem comH_snoc (l : List (Int × Int)) (p : Int × Int) (h : l ≠ []) : comH (l ++ [p]) = min (comH l) p.2 := by
  cases l with
  | nil => exact absurd rfl h
  | cons q t => exact comHi_snoc q.2 t p
end Go.Proofs.YtmglbegbijofkaaGreatDoor
