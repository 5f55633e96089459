/- Plain: sums over two lists side by side, up to the first error. -/
namespace Go.Proofs.YtmglbegbijofkaaGreatDoor
def rkErr {α : Type} (f : α → Int) : List α → Int
  | [] => 0
  | p :: r => if f p = 0 then rkErr f r else f p
def rkSum {α : Type} (g : α → Int) (l : List α) : Int := (l.map g).sum
theorem rkErr_app {α : Type} (f : α → Int) : ∀ (a b : List α), rkErr f (a ++ b) = if rkErr f a = 0 then rkErr f b else rkErr f a
  | [], b => by simp [rkErr]
  | p :: a, b => by
    have ih := rkErr_app f a b
    have e1 : rkErr f (p :: a ++ b) = if f p = 0 then rkErr f (a ++ b) else f p := rfl
    have e2 : rkErr f (p :: a) = if f p = 0 then rkErr f a else f p := rfl
    by_cases h : f p = 0
    · rw [if_pos h] at e1 e2; rw [e1, e2]; exact ih
    · rw [if_neg h] at e1 e2; rw [e1, e2, if_neg h]
theorem rkSum_app {α : Type} (g : α → Int) (a b : List α) : rkSum g (a ++ b) = rkSum g a + rkSum g b := by simp [rkSum]
theorem rkErr_drop {α : Type} (f : α → Int) (l : List α) (k : Nat) (hk : k < l.length) : rkErr f (l.drop k) = if f l[k] = 0 then rkErr f (l.drop (k + 1)) else f l[k] := by
  rw [List.drop_eq_getElem_cons hk]; rfl
theorem rkSum_take {α : Type} (g : α → Int) (l : List α) (k : Nat) (hk : k < l.length) : rkSum g (l.take (k + 1)) = rkSum g (l.take k) + g l[k] := by
  rw [List.take_succ_eq_append_getElem hk, rkSum_app]; simp [rkSum]
theorem rkErr_mem {α : Type} {f : α → Int} : ∀ {l : List α}, rkErr f l = 0 → ∀ p ∈ l, f p = 0
  | [], _ => by simp
  | q :: l, h => by
    simp only [rkErr] at h
    by_cases hq : f q = 0
    · rw [if_pos hq] at h
      intro p hp
      rcases List.mem_cons.1 hp with rfl | hp
      · exact hq
      · exact rkErr_mem h p hp
    · rw [if_neg hq] at h; exact absurd h hq
theorem rkSum_bd {α : Type} {g : α → Int} {B : Int} (hB : 0 ≤ B) : ∀ (l : List α), (∀ p ∈ l, 0 ≤ g p ∧ g p ≤ B) → 0 ≤ rkSum g l ∧ rkSum g l ≤ l.length * B
  | [], _ => by simp [rkSum]
  | q :: l, h => by
    have ih := rkSum_bd hB l (fun p hp => h p (by simp [hp]))
    have hq := h q (by simp)
    have e : rkSum g (q :: l) = g q + rkSum g l := by simp [rkSum]
    rw [e, List.length_cons]
    push_cast
    rw [Int.add_mul]
    omega
end Go.Proofs.YtmglbegbijofkaaGreatDoor
