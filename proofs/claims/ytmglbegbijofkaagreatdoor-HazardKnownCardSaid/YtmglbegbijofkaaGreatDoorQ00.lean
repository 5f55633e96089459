set_option linter.unusedVariables false
set_option linter.unusedSimpArgs false
/- Plain functions that say what the program's leaves compute; no program in sight. -/
namespace Go.Proofs.YtmglbegbijofkaaGreatDoor
def outB (n lo hi : Int) : Bool := decide (n < lo) || decide (hi < n)
def offB (n : Int) : Bool := outB n (-2000000000) 2000000000
def badB (lo hi : Int) : Bool := offB lo || offB hi || decide (hi < lo)
def wildB (xl xh yl yh : Int) : Bool := badB xl xh || badB yl yh
def strangeB (p xl xh yl yh tl th : Int) : Bool :=
  decide (p < 0) || wildB xl xh yl yh || outB th 0 100000 || outB tl 0 th || decide (3001 ≤ th - tl)
theorem outB_false {n lo hi : Int} : outB n lo hi = false ↔ lo ≤ n ∧ n ≤ hi := by unfold outB; simp
theorem offB_false {n : Int} : offB n = false ↔ -2000000000 ≤ n ∧ n ≤ 2000000000 := by unfold offB; exact outB_false
theorem badB_false {a b : Int} : badB a b = false ↔ -2000000000 ≤ a ∧ b ≤ 2000000000 ∧ a ≤ b := by
  unfold badB; simp [offB_false]; omega
theorem wildB_false {a b c d : Int} : wildB a b c d = false ↔ (-2000000000 ≤ a ∧ b ≤ 2000000000 ∧ a ≤ b) ∧ (-2000000000 ≤ c ∧ d ≤ 2000000000 ∧ c ≤ d) := by
  unfold wildB; simp [badB_false]
theorem strangeB_false {p a b c d s t : Int} : strangeB p a b c d s t = false ↔ 0 ≤ p ∧ ((-2000000000 ≤ a ∧ b ≤ 2000000000 ∧ a ≤ b) ∧ (-2000000000 ≤ c ∧ d ≤ 2000000000 ∧ c ≤ d)) ∧ 0 ≤ s ∧ s ≤ t ∧ t ≤ 100000 ∧ t - s < 3001 := by
  unfold strangeB; simp [wildB_false, outB_false]; omega
theorem tdiv_cases (a b : Int) : (0 ≤ a → a.tdiv b = a / b) ∧ (a < 0 → a.tdiv b = -((-a) / b)) := by
  refine ⟨fun h => Int.tdiv_eq_ediv_of_nonneg h, fun h => ?_⟩
  have e : a.tdiv b = -((-a).tdiv b) := by rw [Int.neg_tdiv]; simp
  rw [e, Int.tdiv_eq_ediv_of_nonneg (by omega)]
theorem ediv_facts (a b : Int) (hb : 1 ≤ b) : b * (a / b) ≤ a ∧ a < b * (a / b) + b := by
  have h1 := Int.emod_add_mul_ediv a b
  have h2 := Int.emod_nonneg a (show b ≠ 0 by omega)
  have h3 := Int.emod_lt_of_pos a (show 0 < b by omega)
  omega
theorem ediv_unique (a b q : Int) (hb : 1 ≤ b) (h1 : b * q ≤ a) (h2 : a < b * q + b) : a / b = q := by
  obtain ⟨h3, h4⟩ := ediv_facts a b hb
  have h5 : b * (a / b) < b * (q + 1) := by rw [Int.mul_add]; omega
  have h6 : b * q < b * (a / b + 1) := by rw [Int.mul_add]; omega
  have h7 := Int.lt_of_mul_lt_mul_left h5 (by omega)
  have h8 := Int.lt_of_mul_lt_mul_left h6 (by omega)
  omega
/-- Go's quotient, its product and the floor -/
theorem floor_facts (a b : Int) (hb : 1 ≤ b) :
    (0 ≤ a → 0 ≤ a.tdiv b ∧ a.tdiv b ≤ a ∧ 0 ≤ a.tdiv b * b ∧ a.tdiv b * b ≤ a) ∧ (a < 0 → a ≤ a.tdiv b ∧ a.tdiv b ≤ 0 ∧ a ≤ a.tdiv b * b ∧ a.tdiv b * b ≤ 0) ∧
    (a < a.tdiv b * b → a / b = a.tdiv b - 1) ∧ (a.tdiv b * b ≤ a → a / b = a.tdiv b) := by
  obtain ⟨hp, hn⟩ := tdiv_cases a b
  rcases Int.lt_or_le a 0 with h | h
  · have e := hn h
    obtain ⟨h1, h2⟩ := ediv_facts (-a) b hb
    have h0 : 0 ≤ (-a) / b := Int.ediv_nonneg (by omega) (by omega)
    have h3 : (-a) / b ≤ b * ((-a) / b) := by
      have := Int.mul_le_mul_of_nonneg_right (c := (-a) / b) hb h0
      omega
    have e2 : a.tdiv b * b = -(b * ((-a) / b)) := by rw [e, Int.neg_mul, Int.mul_comm]
    refine ⟨fun _ => by omega, fun _ => ⟨by omega, by omega, by omega, by
      have : 0 ≤ b * ((-a) / b) := by omega
      omega⟩, fun hl => ?_, fun hl => ?_⟩
    · refine ediv_unique _ _ _ hb ?_ ?_
      · rw [e, Int.mul_sub, Int.mul_neg]; omega
      · rw [e, Int.mul_sub, Int.mul_neg]; omega
    · refine ediv_unique _ _ _ hb ?_ ?_
      · rw [e, Int.mul_neg]; omega
      · rw [e, Int.mul_neg]; omega
  · have e := hp h
    obtain ⟨h1, h2⟩ := ediv_facts a b hb
    have h0 : 0 ≤ a / b := Int.ediv_nonneg (by omega) (by omega)
    have h3 : a / b ≤ b * (a / b) := by
      have := Int.mul_le_mul_of_nonneg_right (c := a / b) hb h0
      omega
    have e2 : a.tdiv b * b = b * (a / b) := by rw [e, Int.mul_comm]
    refine ⟨fun _ => ⟨by omega, by omega, by omega, by omega⟩, fun _ => by omega, fun hl => by omega, fun _ => e.symm⟩

def stepsLo (l fr side : Int) : Int := max ((l - fr) / side) 0
def stepsHi (h fr side many : Int) : Int := min ((h - fr) / side) (many - 1)
def stepsMo (l h fr side many : Int) : Bool := decide ((l - fr) / side < 0) || decide (many ≤ (h - fr) / side)
end Go.Proofs.YtmglbegbijofkaaGreatDoor
/- Plain functions on lists: the cells that an area meets. -/
namespace Go.Proofs.YtmglbegbijofkaaGreatDoor
/-- the cells of the first i columns in row y -/
def rowL (c y cols : Int) (i : Nat) : List Int := (List.range i).map fun (j : Nat) => y * cols + (c + (j : Int))
/-- the cells of the first k rows -/
def rowsL (c r cols : Int) (nx k : Nat) : List Int := (List.range k).flatMap fun (j : Nat) => rowL c (r + (j : Int)) cols nx
theorem rowL_succ (c y cols : Int) (i : Nat) : rowL c y cols (i + 1) = rowL c y cols i ++ [y * cols + (c + (i : Int))] := by
  simp [rowL, List.range_succ]
theorem rowsL_succ (c r cols : Int) (nx k : Nat) : rowsL c r cols nx (k + 1) = rowsL c r cols nx k ++ rowL c (r + (k : Int)) cols nx := by
  simp [rowsL, List.range_succ, List.flatMap_append]
theorem rowL_length (c y cols : Int) (i : Nat) : (rowL c y cols i).length = i := by simp [rowL]
theorem rowsL_length (c r cols : Int) (nx k : Nat) : (rowsL c r cols nx k).length = k * nx := by
  induction k with
  | zero => simp [rowsL]
  | succ k ih => rw [rowsL_succ, List.length_append, ih, rowL_length, Nat.succ_mul]
theorem stepsLo_bd (l fr side : Int) (h1 : -2000000000 ≤ l) (h2 : l ≤ 2000000000) (h5 : -2000000000 ≤ fr) (h6 : fr ≤ 2000000000) (h7 : 1 ≤ side) : 0 ≤ stepsLo l fr side ∧ stepsLo l fr side ≤ 4000000000 := by
  unfold stepsLo
  obtain ⟨k1, k2⟩ := ediv_facts (l - fr) side h7
  have : (l - fr) / side ≤ 4000000000 := by
    rcases Int.lt_or_le ((l - fr) / side) 0 with h | h
    · omega
    · have := Int.mul_le_mul_of_nonneg_right (c := (l - fr) / side) h7 h
      omega
  omega
theorem stepsHi_bd (l fr side many : Int) (h1 : -2000000000 ≤ l) (h2 : l ≤ 2000000000) (h5 : -2000000000 ≤ fr) (h6 : fr ≤ 2000000000) (h7 : 1 ≤ side) (h8 : 1 ≤ many) : -4000000001 ≤ stepsHi l fr side many ∧ stepsHi l fr side many ≤ many - 1 := by
  unfold stepsHi
  obtain ⟨k1, k2⟩ := ediv_facts (l - fr) side h7
  have : -4000000001 ≤ (l - fr) / side := by
    rcases Int.lt_or_le ((l - fr) / side) (-1) with h | h
    · have := Int.mul_le_mul_of_nonneg_right (c := -((l - fr) / side + 1)) h7 (by omega)
      have e : side * -((l - fr) / side + 1) = -(side * ((l - fr) / side)) - side := by rw [Int.mul_neg, Int.mul_add]; omega
      omega
    · omega
  omega
end Go.Proofs.YtmglbegbijofkaaGreatDoor
/- Plain: the first index at which something is so; what Check and asked return. -/
namespace Go.Proofs.YtmglbegbijofkaaGreatDoor
def idxP (p : Int → Bool) : List Int → Int → Int
  | [], _ => -1
  | z :: zs, k => if p z then k else idxP p zs (k + 1)
theorem idxP_drop (p : Int → Bool) (zs : List Int) (i : Nat) (h : i < zs.length) :
    idxP p (zs.drop i) i = if p zs[i] then (i : Int) else idxP p (zs.drop (i + 1)) ((i + 1 : Nat) : Int) := by
  rw [List.drop_eq_getElem_cons h]
  simp [idxP]
theorem idxP_end (p : Int → Bool) (zs : List Int) (k : Int) : idxP p (zs.drop zs.length) k = -1 := by simp [idxP]
theorem idxP_bd (p : Int → Bool) (zs : List Int) (k : Int) (hk : 0 ≤ k) : -1 ≤ idxP p zs k ∧ idxP p zs k ≤ k + zs.length := by
  induction zs generalizing k with
  | nil => simp [idxP]; omega
  | cons z zs ih =>
    simp only [idxP]
    split
    · simp; omega
    · have := ih (k + 1) (by omega)
      simp; omega
def outP (z : Int) : Bool := outB z 0 1000000
/-- Check's first test -/
def mapB (cx cy size cols rows : Int) : Bool := offB cx || offB cy || outB size 1 100000 || outB cols 1 20 || outB rows 1 20
def chkPart (cx cy size cols rows : Int) (zs : List Int) : Int := if mapB cx cy size cols rows then 1 else if (zs.length : Int) ≠ cols * rows then 2 else if 0 ≤ idxP outP zs 0 then 2 else 0
def chkAt (cx cy size cols rows : Int) (zs : List Int) : Int := if mapB cx cy size cols rows then 0 else if (zs.length : Int) ≠ cols * rows then 0 else if 0 ≤ idxP outP zs 0 then idxP outP zs 0 else 0
def chkE (cx cy size cols rows : Int) (zs : List Int) : Int := if mapB cx cy size cols rows then 7 else if (zs.length : Int) ≠ cols * rows then 2 else if 0 ≤ idxP outP zs 0 then 7 else 0
theorem mapB_false {cx cy size cols rows : Int} : mapB cx cy size cols rows = false ↔ (-2000000000 ≤ cx ∧ cx ≤ 2000000000) ∧ (-2000000000 ≤ cy ∧ cy ≤ 2000000000) ∧ (1 ≤ size ∧ size ≤ 100000) ∧ (1 ≤ cols ∧ cols ≤ 20) ∧ (1 ≤ rows ∧ rows ≤ 20) := by
  unfold mapB; simp [offB_false, outB_false]; omega
def askE (cx cy size cols rows : Int) (zs : List Int) (xl xh yl yh lethal cap : Int) : Int :=
  if chkE cx cy size cols rows zs ≠ 0 then chkE cx cy size cols rows zs else if wildB xl xh yl yh then 7 else if outB lethal 0 10000 || outB cap 1 1000000 then 2 else 0
theorem chkE_zero {cx cy size cols rows : Int} {zs : List Int} (h : chkE cx cy size cols rows zs = 0) : mapB cx cy size cols rows = false ∧ (zs.length : Int) = cols * rows ∧ idxP outP zs 0 < 0 := by
  unfold chkE at h
  split at h
  · omega
  · rename_i h1
    split at h
    · omega
    · split at h
      · omega
      · exact ⟨by simpa using h1, by omega, by omega⟩
theorem idxP_none {p : Int → Bool} : ∀ {zs : List Int} {k : Int}, 0 ≤ k → idxP p zs k < 0 → ∀ z ∈ zs, p z = false
  | [], _, _, _ => by simp
  | z :: zs, k, hk, h => by
    simp only [idxP] at h
    split at h
    · omega
    · rename_i hz
      intro y hy
      rcases List.mem_cons.1 hy with rfl | hy
      · simpa using hz
      · exact idxP_none (by omega) h y hy
end Go.Proofs.YtmglbegbijofkaaGreatDoor
/- Plain: spans in common. -/
namespace Go.Proofs.YtmglbegbijofkaaGreatDoor
def comLo (lo : Int) (ss : List (Int × Int)) : Int := ss.foldl (fun a s => max a s.1) lo
def comHi (hi : Int) (ss : List (Int × Int)) : Int := ss.foldl (fun a s => min a s.2) hi
theorem comLo_drop (lo : Int) (ss : List (Int × Int)) (k : Nat) (h : k < ss.length) : comLo lo (ss.drop k) = comLo (max lo ss[k].1) (ss.drop (k + 1)) := by
  rw [List.drop_eq_getElem_cons h]; rfl
theorem comHi_drop (hi : Int) (ss : List (Int × Int)) (k : Nat) (h : k < ss.length) : comHi hi (ss.drop k) = comHi (min hi ss[k].2) (ss.drop (k + 1)) := by
  rw [List.drop_eq_getElem_cons h]; rfl
end Go.Proofs.YtmglbegbijofkaaGreatDoor
/- Plain: which strings are names. -/
namespace Go.Proofs.YtmglbegbijofkaaGreatDoor
def chBad (i : Nat) (x : Int) : Bool := !(decide (97 ≤ x) && decide (x ≤ 122)) && (decide (i = 0) || (!decide (x = 45) && !(decide (48 ≤ x) && decide (x ≤ 57))))
def badFrom : List UInt8 → Nat → Bool
  | [], _ => false
  | c :: r, k => chBad k c.toNat || badFrom r (k + 1)
theorem badFrom_drop (l : List UInt8) (k : Nat) (h : k < l.length) : badFrom (l.drop k) k = (chBad k (l.getD k 0).toNat || badFrom (l.drop (k + 1)) (k + 1)) := by
  rw [List.drop_eq_getElem_cons h]
  simp [badFrom, List.getElem?_eq_getElem h]
theorem badFrom_end (l : List UInt8) (k : Nat) : badFrom (l.drop l.length) k = false := by simp [badFrom]
def nameB (l : List UInt8) : Bool := !badFrom l 0 && !outB l.length 1 24
end Go.Proofs.YtmglbegbijofkaaGreatDoor
/- Plain: crafts and their sights. -/
namespace Go.Proofs.YtmglbegbijofkaaGreatDoor
/-- a sight: tick, place, height, error -/
structure Sight where
  t : Int
  x : Int
  y : Int
  h : Int
  e : Int
def Sight.zero : Sight := ⟨0, 0, 0, 0, 0⟩
def sgAt (ss : List Sight) (k : Nat) : Sight := ss.getD k Sight.zero
def sgEarly (ss : List Sight) (k : Nat) : Bool := decide (0 < k) && decide ((sgAt ss k).t ≤ (sgAt ss (k - 1)).t)
def sgBad (s : Sight) : Bool := outB s.t 0 100000 || offB s.x || offB s.y || outB s.h 0 2000000000 || outB s.e 0 2000000000
/-- the first sight with an error among n from k on -/
def sgI (ss : List Sight) : Nat → Nat → Int
  | 0, _ => 0
  | n + 1, k => if sgEarly ss k then k else if sgBad (sgAt ss k) then k else sgI ss n (k + 1)
def sgE (ss : List Sight) : Nat → Nat → Int
  | 0, _ => 0
  | n + 1, k => if sgEarly ss k then 2 else if sgBad (sgAt ss k) then 7 else sgE ss n (k + 1)
def crB (speed climb low high : Int) : Bool := outB speed 0 1000000 || outB climb 0 1000000 || outB high 0 2000000000 || outB low 0 high
def crI (nm : List UInt8) (speed climb low high : Int) (ss : List Sight) : Int :=
  if !nameB nm then -1 else if crB speed climb low high then -1 else if outB ss.length 1 10 then -1 else sgI ss ss.length 0
def crE (nm : List UInt8) (speed climb low high : Int) (ss : List Sight) : Int :=
  if !nameB nm then 6 else if crB speed climb low high then 7 else if outB ss.length 1 10 then 3 else sgE ss ss.length 0
theorem crB_false {speed climb low high : Int} : crB speed climb low high = false ↔ (0 ≤ speed ∧ speed ≤ 1000000) ∧ (0 ≤ climb ∧ climb ≤ 1000000) ∧ (high ≤ 2000000000) ∧ 0 ≤ low ∧ low ≤ high := by
  unfold crB; simp [outB_false]; omega
theorem sgBad_false {s : Sight} : sgBad s = false ↔ (0 ≤ s.t ∧ s.t ≤ 100000) ∧ (-2000000000 ≤ s.x ∧ s.x ≤ 2000000000) ∧ (-2000000000 ≤ s.y ∧ s.y ≤ 2000000000) ∧ (0 ≤ s.h ∧ s.h ≤ 2000000000) ∧ (0 ≤ s.e ∧ s.e ≤ 2000000000) := by
  unfold sgBad; simp [outB_false, offB_false]; omega
end Go.Proofs.YtmglbegbijofkaaGreatDoor
/- Plain: where a craft can be, by its sights. -/
namespace Go.Proofs.YtmglbegbijofkaaGreatDoor
def far (tick : Int) (s : Sight) : Int := max (tick - s.t) (s.t - tick)
def sgX (speed tick : Int) (s : Sight) : Int × Int := (s.x - (s.e + far tick s * speed), s.x + (s.e + far tick s * speed))
def sgY (speed tick : Int) (s : Sight) : Int × Int := (s.y - (s.e + far tick s * speed), s.y + (s.e + far tick s * speed))
def sgZ (climb tick : Int) (s : Sight) : Int × Int := (s.h - (s.e + far tick s * climb), s.h + (s.e + far tick s * climb))
theorem take_snoc_map {α β : Type} (f : α → β) (ss : List α) (k : Nat) (h : k < ss.length) : (ss.take (k + 1)).map f = (ss.take k).map f ++ [f ss[k]] := by
  rw [List.take_succ_eq_append_getElem h, List.map_append]; rfl
theorem mul_bd (a b A B : Int) (h1 : 0 ≤ a) (h2 : a ≤ A) (h3 : 0 ≤ b) (h4 : b ≤ B) : 0 ≤ a * b ∧ a * b ≤ A * B :=
  ⟨Int.mul_nonneg h1 h3, Int.mul_le_mul h2 h4 h3 (by omega)⟩
def comL : List (Int × Int) → Int
  | [] => 0
  | p :: t => comLo p.1 t
def comH : List (Int × Int) → Int
  | [] => 0
  | p :: t => comHi p.2 t
def whXL (speed tick : Int) (ss : List Sight) : Int := comL (ss.map (sgX speed tick))
def whXH (speed tick : Int) (ss : List Sight) : Int := comH (ss.map (sgX speed tick))
def whYL (speed tick : Int) (ss : List Sight) : Int := comL (ss.map (sgY speed tick))
def whYH (speed tick : Int) (ss : List Sight) : Int := comH (ss.map (sgY speed tick))
def whZL (climb low tick : Int) (ss : List Sight) : Int := comLo low (ss.map (sgZ climb tick))
def whZH (climb high tick : Int) (ss : List Sight) : Int := comHi high (ss.map (sgZ climb tick))
def whB (speed climb low high tick : Int) (ss : List Sight) : Bool :=
  decide (whXL speed tick ss ≤ whXH speed tick ss) && decide (whYL speed tick ss ≤ whYH speed tick ss) && decide (whZL climb low tick ss ≤ whZH climb high tick ss)
end Go.Proofs.YtmglbegbijofkaaGreatDoor
/- Plain: the first tick at which a craft can be in a room. -/
namespace Go.Proofs.YtmglbegbijofkaaGreatDoor
/-- a valid craft, as the walks use it -/
structure CraftOK (speed climb low high : Int) (ss : List Sight) : Prop where
  s0 : 0 ≤ speed
  s1 : speed ≤ 1000000
  c0 : 0 ≤ climb
  c1 : climb ≤ 1000000
  l0 : 0 ≤ low
  l1 : low ≤ high
  h1 : high ≤ 2000000000
  n0 : 0 < ss.length
  n1 : ss.length ≤ 10
  sg : ∀ k, k < ss.length → sgBad (sgAt ss k) = false
theorem sgE_zero (ss : List Sight) : ∀ (n k : Nat), sgE ss n k = 0 → ∀ j, k ≤ j → j < k + n → sgBad (sgAt ss j) = false
  | 0, k, _, j, h1, h2 => by omega
  | n + 1, k, h, j, h1, h2 => by
    simp only [sgE] at h
    split at h
    · omega
    · split at h
      · omega
      · rename_i hb
        by_cases e : j = k
        · subst e; simpa using hb
        · exact sgE_zero ss n (k + 1) h j (by omega) (by omega)
theorem craft_ok {nm : List UInt8} {speed climb low high : Int} {ss : List Sight} (h : crE nm speed climb low high ss = 0) : CraftOK speed climb low high ss := by
  unfold crE at h
  split at h
  · omega
  · split at h
    · omega
    · split at h
      · omega
      · rename_i h1 h2 h3
        have k2 := crB_false.1 (by simpa using h2)
        have k3 := outB_false.1 (by simpa using h3)
        exact ⟨by omega, by omega, by omega, by omega, by omega, by omega, by omega, by omega, by omega, fun k hk => sgE_zero ss ss.length 0 h k (by omega) (by omega)⟩
/-- the room of a craft and another one have nothing in common, in one of three ways -/
def roomB (speed climb low high t : Int) (ss : List Sight) (a b c d e f : Int) : Bool :=
  !decide (min (whXH speed t ss) b < max (whXL speed t ss) a) && !decide (min (whYH speed t ss) d < max (whYL speed t ss) c) && !decide (min (whZH climb high t ss) f < max (whZL climb low t ss) e)
/-- n ticks from t on: the first at which the craft can be in the room o -/
def firstT (speed climb low high : Int) (ss : List Sight) (o : Int → Int × Int × Int × Int × Int × Int) : Nat → Int → Int
  | 0, _ => -1
  | n + 1, t => if !whB speed climb low high t ss then 0 else if roomB speed climb low high t ss (o t).1 (o t).2.1 (o t).2.2.1 (o t).2.2.2.1 (o t).2.2.2.2.1 (o t).2.2.2.2.2 then t else firstT speed climb low high ss o n (t + 1)
def firstE (speed climb low high : Int) (ss : List Sight) (o : Int → Int × Int × Int × Int × Int × Int) : Nat → Int → Int
  | 0, _ => 0
  | n + 1, t => if !whB speed climb low high t ss then 9 else if roomB speed climb low high t ss (o t).1 (o t).2.1 (o t).2.2.1 (o t).2.2.2.1 (o t).2.2.2.2.1 (o t).2.2.2.2.2 then 0 else firstE speed climb low high ss o n (t + 1)
end Go.Proofs.YtmglbegbijofkaaGreatDoor
/- Plain: impacts. -/
namespace Go.Proofs.YtmglbegbijofkaaGreatDoor
/-- an impact: piece, area, ticks -/
structure Impact where
  p : Int
  xl : Int
  xh : Int
  yl : Int
  yh : Int
  tl : Int
  th : Int
def Impact.zero : Impact := ⟨0, 0, 0, 0, 0, 0, 0⟩
def imAt (l : List Impact) (k : Nat) : Impact := l.getD k Impact.zero
def strangeI (x : Impact) : Bool := strangeB x.p x.xl x.xh x.yl x.yh x.tl x.th
/-- the first strange one among n from k on -/
def strIdx (l : List Impact) : Nat → Nat → Int
  | 0, _ => -1
  | n + 1, k => if strangeI (imAt l k) then k else strIdx l n (k + 1)
theorem strIdx_any (l : List Impact) : ∀ (n k : Nat), k + n = l.length → (0 ≤ strIdx l n k ↔ (l.drop k).any strangeI = true)
  | 0, k, h => by rw [show k = l.length by omega]; simp [strIdx]
  | n + 1, k, h => by
    have hk : k < l.length := by omega
    have e : imAt l k = l[k] := by simp [imAt, hk]
    rw [List.drop_eq_getElem_cons hk, List.any_cons]
    simp only [strIdx, e]
    split
    · rename_i hs; simp [hs]
    · rename_i hs; simp [hs, strIdx_any l n (k + 1) (by omega)]
end Go.Proofs.YtmglbegbijofkaaGreatDoor
/- Plain: the people of a spread. -/
namespace Go.Proofs.YtmglbegbijofkaaGreatDoor
def ppl (zs : List Int) (ps : List (Int × Int)) : Int := (ps.map fun p => p.2 * zs.getD p.1.toNat 0).sum
theorem ppl_snoc (zs : List Int) (ps : List (Int × Int)) (p : Int × Int) : ppl zs (ps ++ [p]) = ppl zs ps + p.2 * zs.getD p.1.toNat 0 := by simp [ppl]
/-- parts that are at most a million each, in cells that are there -/
def PartsOK (zs : List Int) (ps : List (Int × Int)) : Prop := ∀ p ∈ ps, 0 ≤ p.1 ∧ p.1 < zs.length ∧ 0 ≤ p.2 ∧ p.2 ≤ 1000000
theorem ppl_bd (zs : List Int) (hz : ∀ z ∈ zs, 0 ≤ z ∧ z ≤ 1000000) : ∀ (ps : List (Int × Int)), PartsOK zs ps → 0 ≤ ppl zs ps ∧ ppl zs ps ≤ ps.length * 1000000000000
  | [], _ => by simp [ppl]
  | p :: ps, h => by
    have ih := ppl_bd zs hz ps (fun q hq => h q (by simp [hq]))
    obtain ⟨h1, h2, h3, h4⟩ := h p (by simp)
    have hlt : p.1.toNat < zs.length := by omega
    have hz1 := hz zs[p.1.toNat] (List.getElem_mem hlt)
    have e : zs.getD p.1.toNat 0 = zs[p.1.toNat] := by simp [hlt]
    have e2 : ppl zs (p :: ps) = p.2 * zs[p.1.toNat] + ppl zs ps := by simp [ppl, hlt]
    have b1 := Int.mul_nonneg h3 hz1.1
    have b2 := Int.mul_le_mul h4 hz1.2 hz1.1 (by omega : (0 : Int) ≤ 1000000)
    rw [e2, List.length_cons]
    push_cast
    omega
end Go.Proofs.YtmglbegbijofkaaGreatDoor
/- Plain: two fractions compared by their whole parts, then by their rests the other way round. -/
namespace Go.Proofs.YtmglbegbijofkaaGreatDoor
end Go.Proofs.YtmglbegbijofkaaGreatDoor
/- Plain: how Most gives away the parts. -/
namespace Go.Proofs.YtmglbegbijofkaaGreatDoor
def gvStep (zs : List Int) (cap : Int) (st : List (Int × Int) × Int × Int) (c : Int) : List (Int × Int) × Int × Int :=
  if 0 < min st.2.1 cap then (st.1 ++ [(c, min st.2.1 cap)], st.2.1 - min st.2.1 cap, zs.getD c.toNat 0) else (st.1, st.2.1 - min st.2.1 cap, st.2.2)
def gv (zs : List Int) (cap : Int) (S : List Int) : List (Int × Int) × Int × Int := S.foldl (gvStep zs cap) ([], 1000000, 0)
theorem gv_nil (zs : List Int) (cap : Int) : gv zs cap [] = ([], 1000000, 0) := rfl
theorem gv_snoc (zs : List Int) (cap : Int) (S : List Int) (c : Int) : gv zs cap (S ++ [c]) = gvStep zs cap (gv zs cap S) c := by simp [gv]
structure GvOK (zs : List Int) (k : Nat) (st : List (Int × Int) × Int × Int) : Prop where
  l0 : 0 ≤ st.2.1
  l1 : st.2.1 ≤ 1000000
  len : st.1.length ≤ k
  parts : PartsOK zs st.1
  p0 : 0 ≤ st.2.2
  p1 : st.2.2 ≤ 1000000
theorem gvStep_ok {zs : List Int} (hz : ∀ z ∈ zs, 0 ≤ z ∧ z ≤ 1000000) {cap : Int} (h1 : 1 ≤ cap) {k : Nat} {st : List (Int × Int) × Int × Int} (h : GvOK zs k st) {c : Int} (hc : 0 ≤ c ∧ c < zs.length) : GvOK zs (k + 1) (gvStep zs cap st c) := by
  obtain ⟨a, b, d, e, f, g⟩ := h
  unfold gvStep
  split
  · refine ⟨by simp only; omega, by simp only; omega, by simp; omega, fun p hp => ?_, ?_, ?_⟩
    · simp only [List.mem_append, List.mem_singleton] at hp
      rcases hp with hp | rfl
      · exact e p hp
      · exact ⟨hc.1, hc.2, by simp only; omega, by simp only; omega⟩
    · have hl : c.toNat < zs.length := by omega
      have := hz zs[c.toNat] (List.getElem_mem hl)
      simp only; rw [List.getD_eq_getElem?_getD, List.getElem?_eq_getElem hl]; exact this.1
    · have hl : c.toNat < zs.length := by omega
      have := hz zs[c.toNat] (List.getElem_mem hl)
      simp only; rw [List.getD_eq_getElem?_getD, List.getElem?_eq_getElem hl]; exact this.2
  · exact ⟨by simp only; omega, by simp only; omega, by simp only; omega, e, f, g⟩
theorem gv_ok {zs : List Int} (hz : ∀ z ∈ zs, 0 ≤ z ∧ z ≤ 1000000) {cap : Int} (h1 : 1 ≤ cap) (S : List Int) (hS : ∀ c ∈ S, 0 ≤ c ∧ c < (zs.length : Int)) : ∀ k, k ≤ S.length → GvOK zs k (gv zs cap (S.take k))
  | 0, _ => by simp only [List.take_zero, gv_nil]; exact ⟨by simp, by simp, by simp, fun p hp => by simp at hp, by simp, by simp⟩
  | k + 1, hk => by
    rw [List.take_succ_eq_append_getElem (by omega), gv_snoc]
    exact gvStep_ok hz h1 (gv_ok hz h1 S hS k (by omega)) (hS _ (List.getElem_mem _))
theorem fold_ne (zs : List Int) (cap : Int) : ∀ (S : List Int) (st : List (Int × Int) × Int × Int), st.1 ≠ [] → (S.foldl (gvStep zs cap) st).1 ≠ []
  | [], st, h => h
  | c :: S, st, h => by
    rw [List.foldl_cons]
    refine fold_ne zs cap S _ ?_
    unfold gvStep; split
    · simp
    · exact h
theorem gv_ne (zs : List Int) (cap : Int) (h1 : 1 ≤ cap) (S : List Int) (hS : S ≠ []) : (gv zs cap S).1 ≠ [] := by
  cases S with
  | nil => exact absurd rfl hS
  | cons c S =>
    unfold gv
    rw [List.foldl_cons]
    refine fold_ne zs cap S _ ?_
    unfold gvStep
    rw [if_pos (by simp only; omega)]
    simp
theorem ppl_perm (zs : List Int) {a b : List (Int × Int)} (h : a.Perm b) : ppl zs a = ppl zs b := by
  induction h with
  | nil => rfl
  | cons x _ ih => simp only [ppl, List.map_cons, List.sum_cons] at *; omega
  | swap x y l => simp only [ppl, List.map_cons, List.sum_cons] at *; omega
  | trans _ _ ih1 ih2 => exact ih1.trans ih2
theorem partsOK_perm {zs : List Int} {a b : List (Int × Int)} (h : a.Perm b) (hb : PartsOK zs b) : PartsOK zs a := fun p hp => hb p (h.mem_iff.1 hp)
end Go.Proofs.YtmglbegbijofkaaGreatDoor
/- Plain: the cells that the reference finds are those of the rows. -/
namespace Go.Proofs.YtmglbegbijofkaaGreatDoor
/-- the numbers below n that lie from a to b -/
theorem filter_between (a b : Int) : ∀ n : Nat, ((List.range n).filter fun (c : Nat) => decide (a ≤ (c : Int)) && decide ((c : Int) ≤ b)).map (fun (c : Nat) => (c : Int)) = (List.range (min b ((n : Int) - 1) - max a 0 + 1).toNat).map fun (j : Nat) => max a 0 + (j : Int)
  | 0 => by
    have : (min b (((0 : Nat) : Int) - 1) - max a 0 + 1).toNat = 0 := by omega
    rw [this]; simp
  | n + 1 => by
    have ih := filter_between a b n
    rw [List.range_succ, List.filter_append, List.map_append, ih]
    by_cases h : a ≤ (n : Int) ∧ (n : Int) ≤ b
    · have e : (min b (((n + 1 : Nat) : Int) - 1) - max a 0 + 1).toNat = (min b ((n : Int) - 1) - max a 0 + 1).toNat + 1 := by omega
      have e2 : max a 0 + (((min b ((n : Int) - 1) - max a 0 + 1).toNat : Nat) : Int) = (n : Int) := by omega
      rw [e, List.range_succ, List.map_append]
      simp [h.1, h.2]
      omega
    · have e : (min b (((n + 1 : Nat) : Int) - 1) - max a 0 + 1).toNat = (min b ((n : Int) - 1) - max a 0 + 1).toNat := by omega
      rw [e]
      have : (decide (a ≤ (n : Int)) && decide ((n : Int) ≤ b)) = false := by
        rw [Bool.and_eq_false_iff, decide_eq_false_iff_not, decide_eq_false_iff_not]; omega
      simp [this]
theorem range_mul (c : Nat) : ∀ r : Nat, List.range (r * c) = (List.range r).flatMap fun i => (List.range c).map fun j => i * c + j
  | 0 => by simp
  | r + 1 => by
    rw [Nat.succ_mul, List.range_add, range_mul c r, List.range_succ, List.flatMap_append]
    simp
theorem le_floor (s x c : Int) (hs : 1 ≤ s) : x < c * s + s ↔ x / s ≤ c := by
  have e : c * s + s = (c + 1) * s := by rw [Int.add_mul, Int.one_mul]
  rw [e]
  constructor
  · intro h
    have := (Int.ediv_lt_iff_lt_mul (show 0 < s by omega)).2 h
    omega
  · intro h
    exact (Int.ediv_lt_iff_lt_mul (show 0 < s by omega)).1 (by omega)
theorem floor_le (s x c : Int) (hs : 1 ≤ s) : c * s ≤ x ↔ c ≤ x / s := (Int.le_ediv_iff_mul_le (show 0 < s by omega)).symm
/-- ref's test of a cell, by its row and its column -/
def meetsB (cx cy s xl xh yl yh r c : Int) : Bool := decide (xl < cx + c * s + s) && decide (cx + c * s ≤ xh) && (decide (yl < cy + r * s + s) && decide (cy + r * s ≤ yh))
theorem meets_eq (cx cy s xl xh yl yh r c : Int) (hs : 1 ≤ s) : meetsB cx cy s xl xh yl yh r c = ((decide ((xl - cx) / s ≤ c) && decide (c ≤ (xh - cx) / s)) && (decide ((yl - cy) / s ≤ r) && decide (r ≤ (yh - cy) / s))) := by
  have h1 := le_floor s (xl - cx) c hs
  have h2 := floor_le s (xh - cx) c hs
  have h3 := le_floor s (yl - cy) r hs
  have h4 := floor_le s (yh - cy) r hs
  unfold meetsB
  rw [Bool.eq_iff_iff]
  simp only [Bool.and_eq_true, decide_eq_true_eq, ← h1, ← h2, ← h3, ← h4]
  omega
theorem filter_flatMap' {α β : Type} (p : β → Bool) (f : α → List β) : ∀ l : List α, (l.flatMap f).filter p = l.flatMap fun a => (f a).filter p
  | [] => rfl
  | a :: l => by simp [filter_flatMap' p f l]
theorem flatMap_if {α β : Type} (p : α → Bool) (f : α → List β) : ∀ l : List α, (l.flatMap fun a => if p a then f a else []) = (l.filter p).flatMap f
  | [] => rfl
  | a :: l => by
    have := flatMap_if p f l
    cases h : p a <;> simp [h, this]
/-- the cells that ref finds are those of the rows -/
theorem cells_ref (cx cy s xl xh yl yh : Int) (cols rows : Nat) (hs : 1 ≤ s) (hc : 1 ≤ cols) :
    ((List.range (rows * cols)).filter fun (i : Nat) => meetsB cx cy s xl xh yl yh ((i / cols : Nat) : Int) ((i % cols : Nat) : Int)).map (fun (i : Nat) => (i : Int)) =
      rowsL (stepsLo xl cx s) (stepsLo yl cy s) cols (stepsHi xh cx s cols - stepsLo xl cx s + 1).toNat (stepsHi yh cy s rows - stepsLo yl cy s + 1).toNat := by
  rw [range_mul, filter_flatMap']
  have hrow : ∀ r : Nat, ((List.range cols).map fun j => r * cols + j).filter (fun (i : Nat) => meetsB cx cy s xl xh yl yh ((i / cols : Nat) : Int) ((i % cols : Nat) : Int)) =
      if (decide ((yl - cy) / s ≤ (r : Int)) && decide ((r : Int) ≤ (yh - cy) / s)) then ((List.range cols).filter fun (c : Nat) => decide ((xl - cx) / s ≤ (c : Int)) && decide ((c : Int) ≤ (xh - cx) / s)).map (fun j => r * cols + j) else [] := fun r => by
    rw [List.filter_map]
    have e : (List.range cols).filter ((fun (i : Nat) => meetsB cx cy s xl xh yl yh ((i / cols : Nat) : Int) ((i % cols : Nat) : Int)) ∘ fun j => r * cols + j) = (List.range cols).filter fun (c : Nat) => (decide ((xl - cx) / s ≤ (c : Int)) && decide ((c : Int) ≤ (xh - cx) / s)) && (decide ((yl - cy) / s ≤ (r : Int)) && decide ((r : Int) ≤ (yh - cy) / s)) := by
      refine List.filter_congr fun j hj => ?_
      have hj' : j < cols := by simpa using hj
      have d1 : (r * cols + j) / cols = r := by rw [Nat.add_comm, Nat.add_mul_div_right _ _ (by omega), Nat.div_eq_of_lt hj']; omega
      have d2 : (r * cols + j) % cols = j := by rw [Nat.add_comm, Nat.add_mul_mod_self_right, Nat.mod_eq_of_lt hj']
      simp only [Function.comp]
      rw [d1, d2, meets_eq _ _ _ _ _ _ _ _ _ hs]
    rw [e]
    cases h : (decide ((yl - cy) / s ≤ (r : Int)) && decide ((r : Int) ≤ (yh - cy) / s))
    · simp
    · simp
  simp only [hrow]
  rw [flatMap_if, List.map_flatMap]
  have hx := filter_between ((xl - cx) / s) ((xh - cx) / s) cols
  have hy := filter_between ((yl - cy) / s) ((yh - cy) / s) rows
  generalize ((List.range cols).filter fun (c : Nat) => decide ((xl - cx) / s ≤ (c : Int)) && decide ((c : Int) ≤ (xh - cx) / s)) = Cs at *
  generalize ((List.range rows).filter fun (c : Nat) => decide ((yl - cy) / s ≤ (c : Int)) && decide ((c : Int) ≤ (yh - cy) / s)) = Rs at *
  have e1 : (Rs.flatMap fun a => (Cs.map fun j => a * cols + j).map fun (i : Nat) => (i : Int)) = (Rs.map fun (r : Nat) => (r : Int)).flatMap fun (r : Int) => (Cs.map fun (c : Nat) => (c : Int)).map fun (c : Int) => r * (cols : Int) + c := by
    rw [List.flatMap_map]
    congr 1
    funext r
    simp
  rw [e1, hx, hy, List.flatMap_map]
  unfold rowsL rowL stepsLo stepsHi
  congr 1
  funext j
  simp
end Go.Proofs.YtmglbegbijofkaaGreatDoor
/- Plain: what spans have in common, one span more. -/
namespace Go.Proofs.YtmglbegbijofkaaGreatDoor
end Go.Proofs.YtmglbegbijofkaaGreatDoor
/- Plain: the greatest spread: no spread has more people than the bound of any price, and the one that gives away by the people reaches the bound of its own price. -/
namespace Go.Proofs.YtmglbegbijofkaaGreatDoor
def zc (zs : List Int) (c : Int) : Int := zs.getD c.toNat 0
theorem zc_bd {zs : List Int} (hz : ∀ z ∈ zs, 0 ≤ z ∧ z ≤ 1000000) (c : Int) : 0 ≤ zc zs c ∧ zc zs c ≤ 1000000 := by
  unfold zc
  rw [List.getD_eq_getElem?_getD]
  cases h : zs[c.toNat]? with
  | none => simp
  | some z => exact hz z (List.mem_of_getElem? h)
def sumF (f : Int → Int) (l : List Int) : Int := (l.map f).sum
theorem sumF_nil (f : Int → Int) : sumF f [] = 0 := rfl
theorem sumF_cons (f : Int → Int) (c : Int) (l : List Int) : sumF f (c :: l) = f c + sumF f l := by simp [sumF]
theorem sumF_snoc (f : Int → Int) (c : Int) (l : List Int) : sumF f (l ++ [c]) = sumF f l + f c := by simp [sumF]
theorem sumF_perm {f : Int → Int} {a b : List Int} (h : a.Perm b) : sumF f a = sumF f b := by
  induction h with
  | nil => rfl
  | cons x _ ih => simp only [sumF_cons, ih]
  | swap x y l => simp only [sumF_cons]; omega
  | trans _ _ i1 i2 => exact i1.trans i2
theorem sumF_nonneg {f : Int → Int} (hf : ∀ c, 0 ≤ f c) : ∀ l, 0 ≤ sumF f l
  | [] => by simp [sumF]
  | c :: l => by have h1 := sumF_nonneg hf l; have h2 := hf c; rw [sumF_cons]; omega
/-- a part of a list without repeats sums to no more -/
theorem sumF_sub {f : Int → Int} (hf : ∀ c, 0 ≤ f c) : ∀ (l L : List Int), l.Nodup → (∀ x ∈ l, x ∈ L) → sumF f l ≤ sumF f L
  | [], L, _, _ => by rw [sumF_nil]; exact sumF_nonneg hf L
  | c :: l, L, hn, hs => by
    have hc : c ∈ L := hs c (by simp)
    have hp := List.perm_cons_erase hc
    rw [sumF_perm hp, sumF_cons, sumF_cons]
    rw [List.nodup_cons] at hn
    have := sumF_sub hf l (L.erase c) hn.2 (fun x hx => (List.mem_erase_of_ne (by rintro rfl; exact hn.1 hx)).2 (hs x (by simp [hx])))
    omega
def bnd (zs : List Int) (cap : Int) (L : List Int) (price : Int) : Int := 1000000 * price + sumF (fun c => cap * max 0 (zc zs c - price)) L
def sumN (ps : List (Int × Int)) : Int := (ps.map fun p => p.2).sum
theorem sumN_cons (p : Int × Int) (ps : List (Int × Int)) : sumN (p :: ps) = p.2 + sumN ps := by simp [sumN]
theorem sumN_snoc (p : Int × Int) (ps : List (Int × Int)) : sumN (ps ++ [p]) = sumN ps + p.2 := by simp [sumN]
theorem ppl_cons (zs : List Int) (p : Int × Int) (ps : List (Int × Int)) : ppl zs (p :: ps) = p.2 * zc zs p.1 + ppl zs ps := by simp [ppl, zc]
/-- a spread of the cells L by a law -/
structure Feas (cap : Int) (L : List Int) (ps : List (Int × Int)) : Prop where
  cap0 : 0 ≤ cap
  part : ∀ q ∈ ps, 0 ≤ q.2 ∧ q.2 ≤ cap
  nodup : (ps.map Prod.fst).Nodup
  sub : ∀ c ∈ ps.map Prod.fst, c ∈ L
  sum : sumN ps ≤ 1000000
/-- what giving away by the people comes to -/
structure GvInv (zs : List Int) (cap : Int) (T : List Int) (st : List (Int × Int) × Int × Int) : Prop where
  l0 : 0 ≤ st.2.1
  sum : sumN st.1 + st.2.1 = 1000000
  full : 0 < st.2.1 → st.1 = T.map fun c => (c, cap)
  part : ∀ q ∈ st.1, 1 ≤ q.2 ∧ q.2 ≤ cap
  pre : ∃ R, T = st.1.map Prod.fst ++ R
  opt : st.2.1 = 0 → ppl zs st.1 = bnd zs cap T st.2.2
  last : st.2.1 = 0 → ∃ c ∈ T, st.2.2 = zc zs c
  last2 : st.2.1 = 0 → T ≠ [] → (∀ c ∈ st.1.map Prod.fst, st.2.2 ≤ zc zs c)
theorem ppl_full (zs : List Int) (cap : Int) : ∀ T : List Int, ppl zs (T.map fun c => (c, cap)) = sumF (fun c => cap * zc zs c) T
  | [] => rfl
  | c :: T => by rw [List.map_cons, ppl_cons, sumF_cons, ppl_full zs cap T]
theorem sumN_full (cap : Int) : ∀ T : List Int, sumN (T.map fun c => (c, cap)) = T.length * cap
  | [] => by simp [sumN]
  | c :: T => by rw [List.map_cons, sumN_cons, sumN_full cap T, List.length_cons]; push_cast; rw [Int.add_mul]; omega
theorem surplus_full (zs : List Int) (cap p : Int) : ∀ T : List Int, (∀ c ∈ T, p ≤ zc zs c) → sumF (fun c => cap * max 0 (zc zs c - p)) T = sumF (fun c => cap * zc zs c) T - T.length * cap * p
  | [], _ => by simp [sumF]
  | c :: T, h => by
    have ih := surplus_full zs cap p T (fun x hx => h x (by simp [hx]))
    have hc := h c (by simp)
    rw [sumF_cons, sumF_cons, ih, List.length_cons, show max 0 (zc zs c - p) = zc zs c - p by omega, Int.mul_sub]
    push_cast
    rw [Int.add_mul, Int.add_mul, Int.one_mul]
    omega
theorem gvStep_inv {zs : List Int} {cap : Int} (h1 : 1 ≤ cap) {T : List Int} {c : Int} {st : List (Int × Int) × Int × Int} (h : GvInv zs cap T st) (hs : ∀ x ∈ T, zc zs c ≤ zc zs x) : GvInv zs cap (T ++ [c]) (gvStep zs cap st c) := by
  obtain ⟨ps, left, price⟩ := st
  obtain ⟨l0, sm, full, part, ⟨R, pre⟩, opt, last, last2⟩ := h
  simp only at l0 sm full part pre opt last last2
  unfold gvStep
  by_cases hl : 0 < left
  · have hn : 0 < min left cap := by omega
    simp only [hn, if_true]
    have hps := full hl
    have hz : zs.getD c.toNat 0 = zc zs c := rfl
    refine ⟨by simp only; omega, by simp only; rw [sumN_snoc]; simp only; omega, fun hl2 => ?_, fun q hq => ?_, ⟨[], ?_⟩, fun hl2 => ?_, fun _ => ⟨c, by simp, hz⟩, fun _ _ x hx => ?_⟩
    · simp only at hl2 ⊢
      rw [hps, List.map_append, List.map_singleton, show min left cap = cap by omega]
    · simp only [List.mem_append, List.mem_singleton] at hq
      rcases hq with hq | rfl
      · exact part q hq
      · exact ⟨by simp only; omega, by simp only; omega⟩
    · simp only
      rw [hps]
      simp [List.map_map, Function.comp_def]
    · simp only at hl2 ⊢
      have hml : min left cap = left := by omega
      rw [hml, hz, ppl_snoc, hps, ppl_full]
      simp only
      unfold bnd
      rw [sumF_snoc, surplus_full zs cap _ T hs, show max 0 (zc zs c - zc zs c) = 0 by omega, Int.mul_zero]
      rw [hps, sumN_full] at sm
      have e : left * zc zs c + T.length * cap * zc zs c = 1000000 * zc zs c := by rw [← Int.add_mul, Int.add_comm, sm]
      have hz' : zs.getD c.toNat 0 = zc zs c := rfl
      rw [hz']
      omega
    · simp only [List.map_append, List.map_cons, List.map_nil, List.mem_append, List.mem_singleton] at hx
      simp only
      rw [hz]
      rcases hx with hx | rfl
      · refine hs x ?_
        rw [pre]
        exact List.mem_append_left _ hx
      · exact Int.le_refl _
  · have hl0 : left = 0 := by omega
    subst hl0
    have hn : ¬ (0 < min 0 cap) := by omega
    simp only [hn, if_false]
    obtain ⟨x, hx, hpx⟩ := last rfl
    refine ⟨by simp only; omega, by simp only; omega, fun hl2 => ?_, part, ⟨R ++ [c], by simp only; rw [pre]; simp⟩, fun _ => ?_, fun _ => ⟨x, by simp [hx], hpx⟩, fun _ _ => last2 rfl (by rintro rfl; simp at hx)⟩
    · simp only at hl2; omega
    · simp only
      rw [opt rfl]
      unfold bnd
      have := hs x hx
      rw [sumF_snoc, show max 0 (zc zs c - price) = 0 by omega, Int.mul_zero]
      omega
theorem gv_inv {zs : List Int} {cap : Int} (h1 : 1 ≤ cap) (S : List Int) (hS : S.Pairwise fun a b => zc zs b ≤ zc zs a) : GvInv zs cap S (gv zs cap S) := by
  have : ∀ k, k ≤ S.length → GvInv zs cap (S.take k) (gv zs cap (S.take k)) := fun k => by
    induction k with
    | zero =>
      intro _
      simp only [List.take_zero, gv_nil]
      exact ⟨by simp, by simp [sumN], fun _ => rfl, fun q hq => by simp at hq, ⟨[], rfl⟩, fun h => by simp at h, fun h => by simp at h, fun h => by simp at h⟩
    | succ k ih =>
      intro hk
      rw [List.take_succ_eq_append_getElem (by omega), gv_snoc]
      refine gvStep_inv h1 (ih (by omega)) (fun x hx => ?_)
      obtain ⟨i, hi, rfl⟩ := List.getElem_of_mem hx
      rw [List.getElem_take]
      rw [List.length_take] at hi
      exact (List.pairwise_iff_getElem.1 hS) i k (by omega) (by omega) (by omega)
  have h := this S.length (Nat.le_refl _)
  rwa [List.take_length] at h
/-- the price that Most hands back -/
def gvPrice (st : List (Int × Int) × Int × Int) : Int := if 0 < st.2.1 then 0 else st.2.2
theorem gv_feas {zs : List Int} {cap : Int} (h1 : 1 ≤ cap) (S : List Int) (hS : S.Pairwise fun a b => zc zs b ≤ zc zs a) (hn : S.Nodup) : Feas cap S (gv zs cap S).1 := by
  have h := gv_inv h1 S hS
  obtain ⟨R, hR⟩ := h.pre
  refine ⟨by omega, fun q hq => ⟨by have := h.part q hq; omega, (h.part q hq).2⟩, ?_, fun c hc => ?_, by have := h.l0; have := h.sum; omega⟩
  · have hn2 : ((gv zs cap S).1.map Prod.fst ++ R).Nodup := by rw [← hR]; exact hn
    exact (List.nodup_append.1 hn2).1
  · rw [hR]; exact List.mem_append_left _ hc
end Go.Proofs.YtmglbegbijofkaaGreatDoor
/- Plain: the reference's way to the greatest spread: the fullest cell that has nothing yet, again and again, is the way of the stable sort. -/
namespace Go.Proofs.YtmglbegbijofkaaGreatDoor
/-- the order of the stable sort: more people first; of as many, the lower cell -/
def ltS (zs : List Int) (a b : Int) : Prop := zc zs b < zc zs a ∨ (zc zs a = zc zs b ∧ a < b)
theorem ltS_le {zs : List Int} {a b : Int} (h : ltS zs a b) : zc zs b ≤ zc zs a := by unfold ltS at h; omega
theorem ltS_irrefl {zs : List Int} {a : Int} (h : ltS zs a a) : False := by unfold ltS at h; omega
theorem ltS_nodup {zs S : List Int} (h : S.Pairwise (ltS zs)) : S.Nodup := h.imp (fun hab => by rintro rfl; exact ltS_irrefl hab)
def gvn (g : List Int) (c : Int) : Int := g.getD c.toNat 0
/-- what is given, cell by cell -/
def givL (n : Nat) (ps : List (Int × Int)) : List Int := ps.foldl (fun g p => g.set p.1.toNat p.2) (List.replicate n 0)
theorem givL_snoc (n : Nat) (ps : List (Int × Int)) (p : Int × Int) : givL n (ps ++ [p]) = (givL n ps).set p.1.toNat p.2 := by simp [givL]
theorem ps_ind {P : List (Int × Int) → Prop} (h0 : P []) (h1 : ∀ l c, P l → P (l ++ [c])) : ∀ l, P l := fun l => by
  have : ∀ r : List (Int × Int), P r.reverse := fun r => by
    induction r with
    | nil => exact h0
    | cons c r ih => rw [List.reverse_cons]; exact h1 _ _ ih
  have h := this l.reverse
  rwa [List.reverse_reverse] at h
theorem givL_length (n : Nat) (ps : List (Int × Int)) : (givL n ps).length = n := by
  induction ps using ps_ind with
  | h0 => simp [givL]
  | h1 l c ih => rw [givL_snoc, List.length_set, ih]
theorem gvn_set (g : List Int) (c : Int) (v : Int) (x : Int) (hc : 0 ≤ c) (hcl : c < g.length) (hx : 0 ≤ x) : gvn (g.set c.toNat v) x = if x = c then v else gvn g x := by
  unfold gvn
  rw [List.getD_eq_getElem?_getD, List.getD_eq_getElem?_getD, List.getElem?_set]
  by_cases h : x = c
  · subst h; rw [if_pos rfl, if_pos (by omega), if_pos rfl]; rfl
  · rw [if_neg (by omega), if_neg h]
theorem givL_get (n : Nat) (ps : List (Int × Int)) (hn : (ps.map Prod.fst).Nodup) (hc : ∀ p ∈ ps, 0 ≤ p.1 ∧ p.1 < n) (x : Int) (hx : 0 ≤ x) : (∀ v, (x, v) ∈ ps → gvn (givL n ps) x = v) ∧ (x ∉ ps.map Prod.fst → gvn (givL n ps) x = 0) := by
  induction ps using ps_ind with
  | h0 => refine ⟨fun v h => by simp at h, fun _ => ?_⟩
          unfold gvn givL
          rw [List.getD_eq_getElem?_getD]
          simp only [List.foldl_nil, List.getElem?_replicate]
          split <;> rfl
  | h1 l p ih =>
    rw [List.map_append, List.nodup_append] at hn
    obtain ⟨i1, i2⟩ := ih hn.1 (fun q hq => hc q (by simp [hq]))
    obtain ⟨p0, p1⟩ := hc p (by simp)
    rw [givL_snoc, gvn_set _ _ _ _ p0 (by rw [givL_length]; exact p1) hx]
    refine ⟨fun v h => ?_, fun h => ?_⟩
    · simp only [List.mem_append, List.mem_singleton] at h
      rcases h with h | h
      · rw [if_neg, i1 v h]
        rintro rfl
        exact hn.2.2 p.1 (List.mem_map.2 ⟨_, h, rfl⟩) p.1 (by simp) rfl
      · subst h; rw [if_pos rfl]
    · simp only [List.map_append, List.mem_append, not_or] at h
      rw [if_neg (by intro e; exact h.2 (by simp [e])), i2 h.1]
/-- the parts that are given, by their cells -/
def partsOf (g : List Int) (k : Nat) : List (Int × Int) := (List.range k).filterMap fun (i : Nat) => if 0 < gvn g i then some ((i : Int), gvn g i) else none
theorem partsOf_succ (g : List Int) (k : Nat) : partsOf g (k + 1) = partsOf g k ++ (if 0 < gvn g k then [((k : Int), gvn g k)] else []) := by
  unfold partsOf
  rw [List.range_succ, List.filterMap_append]
  congr 1
  simp only [List.filterMap_cons, List.filterMap_nil]
  split <;> rename_i h
  · split at h
    · cases h
    · rename_i h2; rw [if_neg h2]
  · split at h
    · rename_i h2; simp only [Option.some.injEq] at h; rw [if_pos h2, ← h]
    · cases h
theorem partsOf_mem (g : List Int) (k : Nat) (q : Int × Int) : q ∈ partsOf g k ↔ 0 ≤ q.1 ∧ q.1 < k ∧ q.2 = gvn g q.1 ∧ 0 < q.2 := by
  induction k with
  | zero => simp [partsOf]; omega
  | succ k ih =>
    rw [partsOf_succ, List.mem_append, ih]
    constructor
    · rintro (h | h)
      · exact ⟨h.1, by omega, h.2.2⟩
      · split at h
        · rename_i h2
          simp only [List.mem_singleton] at h
          subst h
          exact ⟨by simp only; omega, by simp only; omega, rfl, h2⟩
        · simp at h
    · rintro ⟨h1, h2, h3, h4⟩
      by_cases e : q.1 = k
      · refine Or.inr ?_
        rw [e] at h3
        rw [if_pos (by omega), List.mem_singleton]
        exact Prod.ext e h3
      · exact Or.inl ⟨h1, by omega, h3, h4⟩
theorem partsOf_sorted (g : List Int) (k : Nat) : (partsOf g k).Pairwise fun a b => a.1 < b.1 := by
  induction k with
  | zero => simp [partsOf]
  | succ k ih =>
    rw [partsOf_succ, List.pairwise_append]
    refine ⟨ih, ?_, fun a ha b hb => ?_⟩
    · split <;> simp
    · split at hb
      · simp only [List.mem_singleton] at hb
        subst hb
        exact ((partsOf_mem g k a).1 ha).2.1
      · simp at hb
theorem sorted_ext : ∀ (a b : List (Int × Int)), a.Pairwise (fun x y => x.1 < y.1) → b.Pairwise (fun x y => x.1 < y.1) → (∀ x, x ∈ a ↔ x ∈ b) → a = b
  | [], [], _, _, _ => rfl
  | [], y :: b, _, _, h => by have := (h y).2 (by simp); simp at this
  | x :: a, [], _, _, h => by have := (h x).1 (by simp); simp at this
  | x :: a, y :: b, ha, hb, h => by
    rw [List.pairwise_cons] at ha hb
    have e : x = y := by
      rcases List.mem_cons.1 ((h x).1 (by simp)) with h1 | h1
      · exact h1
      · rcases List.mem_cons.1 ((h y).2 (by simp)) with h2 | h2
        · exact h2.symm
        · have := hb.1 x h1
          have := ha.1 y h2
          omega
    subst e
    rw [sorted_ext a b ha.2 hb.2 (fun z => ?_)]
    have hz := h z
    simp only [List.mem_cons] at hz
    constructor
    · intro hm
      rcases hz.1 (Or.inr hm) with rfl | h1
      · have := ha.1 z hm; omega
      · exact h1
    · intro hm
      rcases hz.2 (Or.inr hm) with rfl | h1
      · have := hb.1 z hm; omega
      · exact h1
/-- the parts that the reference lists are those of the sort by cells -/
theorem parts_eq {n : Nat} {ps qs : List (Int × Int)} (hn : (ps.map Prod.fst).Nodup) (hc : ∀ p ∈ ps, 0 ≤ p.1 ∧ p.1 < n ∧ 1 ≤ p.2) (hp : qs.Perm ps) (hq : qs.Pairwise (fun x y => x.1 ≤ y.1)) : partsOf (givL n ps) n = qs := by
  have hqn : (qs.map Prod.fst).Nodup := (hp.map Prod.fst).nodup_iff.2 hn
  refine sorted_ext _ _ (partsOf_sorted _ _) ?_ (fun x => ?_)
  · have h2 : qs.Pairwise (fun x y => x.1 ≠ y.1) := by
      unfold List.Nodup at hqn
      rw [List.pairwise_map] at hqn
      exact hqn
    exact (hq.and h2).imp (fun h => by omega)
  · rw [partsOf_mem, hp.mem_iff]
    constructor
    · rintro ⟨h1, h2, h3, h4⟩
      by_cases hx : x.1 ∈ ps.map Prod.fst
      · obtain ⟨p, hpm, he⟩ := List.mem_map.1 hx
        have := (givL_get n ps hn (fun p hp => ⟨(hc p hp).1, (hc p hp).2.1⟩) x.1 h1).1 p.2 (by rw [← he]; exact hpm)
        rw [this] at h3
        have : x = p := Prod.ext he.symm h3
        rw [this]; exact hpm
      · have := (givL_get n ps hn (fun p hp => ⟨(hc p hp).1, (hc p hp).2.1⟩) x.1 h1).2 hx
        omega
    · intro h
      obtain ⟨h1, h2, h3⟩ := hc x h
      refine ⟨h1, h2, ?_, by omega⟩
      exact ((givL_get n ps hn (fun p hp => ⟨(hc p hp).1, (hc p hp).2.1⟩) x.1 h1).1 x.2 h).symm
end Go.Proofs.YtmglbegbijofkaaGreatDoor
/- Plain: when there is a spread at all; more people, a greater Cap, more cells; what Prove checks. -/
namespace Go.Proofs.YtmglbegbijofkaaGreatDoor
theorem sumF_const (k : Int) : ∀ l : List Int, sumF (fun _ => k) l = l.length * k
  | [] => by simp [sumF]
  | c :: l => by
    rw [sumF_cons, sumF_const k l, List.length_cons]
    push_cast
    rw [Int.add_mul]
    omega
theorem nodup_len {L L' : List Int} (hn : L.Nodup) (hl : ∀ c ∈ L, c ∈ L') : L.length ≤ L'.length := by
  have := sumF_sub (f := fun _ => 1) (fun _ => by omega) L L' hn hl
  rw [sumF_const, sumF_const] at this
  omega
/-! what Prove checks -/
def argBad (L : List Int) : Int → List (Int × Int) → Bool
  | _, [] => false
  | b, p :: ps => !L.contains p.1 || decide (p.1 ≤ b) || argBad L p.1 ps
theorem argBad_false {L : List Int} : ∀ (ps : List (Int × Int)) (b : Int), argBad L b ps = false ↔ (∀ p ∈ ps, p.1 ∈ L ∧ b < p.1) ∧ ps.Pairwise (fun x y => x.1 < y.1)
  | [], b => by simp [argBad]
  | p :: ps, b => by
    have ih := argBad_false (L := L) ps p.1
    have hc : (!L.contains p.1) = false ↔ p.1 ∈ L := by simp
    simp only [argBad, Bool.or_eq_false_iff, hc, decide_eq_false_iff_not, ih, List.pairwise_cons, List.mem_cons, forall_eq_or_imp]
    constructor
    · rintro ⟨⟨h1, h2⟩, h3, h4⟩
      exact ⟨⟨⟨h1, by omega⟩, fun q hq => ⟨(h3 q hq).1, by have := (h3 q hq).2; omega⟩⟩, fun q hq => (h3 q hq).2, h4⟩
    · rintro ⟨⟨⟨h1, h2⟩, h3⟩, h4, h5⟩
      exact ⟨⟨h1, by omega⟩, fun q hq => ⟨(h3 q hq).1, h4 q hq⟩, h5⟩
def capBad (cap : Int) (ps : List (Int × Int)) : Bool := ps.any fun p => outB p.2 1 cap
theorem capBad_false {cap : Int} {ps : List (Int × Int)} : capBad cap ps = false ↔ ∀ p ∈ ps, 1 ≤ p.2 ∧ p.2 ≤ cap := by
  unfold capBad
  rw [List.any_eq_false]
  constructor
  · intro h p hp
    exact outB_false.1 (by simpa using h p hp)
  · intro h p hp
    rw [outB_false.2 (h p hp)]; simp
def outBad (more : Bool) (out price : Int) : Bool := outB out 0 1000000 || (decide (0 < out) && !more) || outB price 0 1000000
def sprE (L : List Int) (more : Bool) (cap : Int) (ps : List (Int × Int)) (out price : Int) : Int :=
  if argBad L (-1) ps then 2 else if outBad more out price then 2 else if capBad cap ps then 140 else if out + sumN ps = 1000000 then 0 else 141
structure SprOK (L : List Int) (more : Bool) (cap : Int) (ps : List (Int × Int)) (out price : Int) : Prop where
  cell : ∀ p ∈ ps, p.1 ∈ L ∧ -1 < p.1
  asc : ps.Pairwise fun x y => x.1 < y.1
  o0 : 0 ≤ out
  o1 : out ≤ 1000000
  om : 0 < out → more = true
  p0 : 0 ≤ price
  p1 : price ≤ 1000000
  part : ∀ p ∈ ps, 1 ≤ p.2 ∧ p.2 ≤ cap
  sum : out + sumN ps = 1000000
end Go.Proofs.YtmglbegbijofkaaGreatDoor
/- Plain: the reference's loop over the fullest cells, round by round. -/
namespace Go.Proofs.YtmglbegbijofkaaGreatDoor
end Go.Proofs.YtmglbegbijofkaaGreatDoor
/- Plain: parts that are given cell by cell, and again from the last cell on. -/
namespace Go.Proofs.YtmglbegbijofkaaGreatDoor
theorem sum_set : ∀ (l : List Int) (i : Nat) (v : Int), i < l.length → (l.set i v).sum = l.sum - l.getD i 0 + v
  | [], i, v, h => by simp at h
  | a :: l, 0, v, _ => by simp; omega
  | a :: l, i + 1, v, h => by
    have ih := sum_set l i v (by simpa using h)
    simp only [List.set_cons_succ, List.sum_cons, List.getD_cons_succ, ih]
    omega
theorem getD_set (l : List Int) (i j : Nat) (v : Int) (hi : i < l.length) : (l.set i v).getD j 0 = if i = j then v else l.getD j 0 := by
  rw [List.getD_eq_getElem?_getD, List.getElem?_set, List.getD_eq_getElem?_getD]
  by_cases h : i = j
  · subst h; simp [hi]
  · simp [h]
/-- the parts so far -/
structure PI (cap : Int) (n : Nat) (pl : List Int) (left : Int) : Prop where
  len : pl.length = n
  bd : ∀ j, 0 ≤ pl.getD j 0 ∧ pl.getD j 0 ≤ cap
  sum : pl.sum + left = 1000000
  l0 : 0 ≤ left
theorem sum_nonneg : ∀ (l : List Int), (∀ j, 0 ≤ l.getD j 0) → 0 ≤ l.sum
  | [], _ => by simp
  | a :: l, h => by
    have h0 := h 0
    have ih := sum_nonneg l (fun j => by simpa using h (j + 1))
    simp at h0 ⊢
    omega
theorem PI.le {cap : Int} {n : Nat} {pl : List Int} {left : Int} (h : PI cap n pl left) : left ≤ 1000000 := by
  have := sum_nonneg pl (fun j => (h.bd j).1)
  have := h.sum
  omega
theorem PI.start {cap : Int} (h0 : 0 ≤ cap) (n : Nat) : PI cap n (List.replicate n 0) 1000000 := by
  have hs : ∀ n : Nat, (List.replicate n (0 : Int)).sum = 0 := fun n => by
    induction n with
    | zero => rfl
    | succ n ih => rw [List.replicate_succ, List.sum_cons, ih]; rfl
  refine ⟨by simp, fun j => ?_, by rw [hs]; rfl, by omega⟩
  rw [List.getD_eq_getElem?_getD, List.getElem?_replicate]
  split <;> simp [h0]
theorem PI.put {cap : Int} {n : Nat} {pl : List Int} {left : Int} (h : PI cap n pl left) {i : Nat} (hi : i < n) {v : Int} (h0 : 0 ≤ v) (h1 : v ≤ cap) (h2 : v - pl.getD i 0 ≤ left) : PI cap n (pl.set i v) (left - (v - pl.getD i 0)) := by
  have hl := h.len
  refine ⟨by simp [hl], fun j => ?_, ?_, by omega⟩
  · rw [getD_set pl i j v (by omega)]
    split
    · exact ⟨h0, h1⟩
    · exact h.bd j
  · rw [sum_set pl i v (by omega)]
    have := h.sum
    omega
end Go.Proofs.YtmglbegbijofkaaGreatDoor
/- Plain: sums over two lists side by side, up to the first error. -/
namespace Go.Proofs.YtmglbegbijofkaaGreatDoor
def rkErr {α : Type} (f : α → Int) : List α → Int
  | [] => 0
  | p :: r => if f p = 0 then rkErr f r else f p
def rkSum {α : Type} (g : α → Int) (l : List α) : Int := (l.map g).sum
theorem rkSum_app {α : Type} (g : α → Int) (a b : List α) : rkSum g (a ++ b) = rkSum g a + rkSum g b := by simp [rkSum]
theorem rkErr_drop {α : Type} (f : α → Int) (l : List α) (k : Nat) (hk : k < l.length) : rkErr f (l.drop k) = if f l[k] = 0 then rkErr f (l.drop (k + 1)) else f l[k] := by
  rw [List.drop_eq_getElem_cons hk]; rfl
theorem rkSum_take {α : Type} (g : α → Int) (l : List α) (k : Nat) (hk : k < l.length) : rkSum g (l.take (k + 1)) = rkSum g (l.take k) + g l[k] := by
  rw [List.take_succ_eq_append_getElem hk, rkSum_app]; simp [rkSum]
end Go.Proofs.YtmglbegbijofkaaGreatDoor
/- Plain: once nothing is left, the giving changes nothing. -/
namespace Go.Proofs.YtmglbegbijofkaaGreatDoor
end Go.Proofs.YtmglbegbijofkaaGreatDoor
