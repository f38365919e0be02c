/- CovL: contracts of functions, and lemmas, for this seat. Conditions: as each states. -/
import Derived.Test.YtlifhoajamnehaaCovM
import Derived.Test.YtlifhoajamnehaaLists
set_option linter.unusedVariables false
set_option maxRecDepth 100000
set_option maxHeartbeats 1000000
namespace Go.Proofs.Ytlifhoajamnehaa
open Go Go.RowKit
/-- covers that go on from D -/
def kD (f : Nat → Nat) (t : Nat) (O : List Nat) (m b : Nat) (D : List Nat) : List (List Nat) := (kV f t O m b).map (D ++ ·)
theorem kD_0 (f : Nat → Nat) (t : Nat) (O : List Nat) (b : Nat) (D : List Nat) : kD f t O 0 b D = if b = t then [D] else [] := by
  unfold kD
  rw [kV_0]
  split <;> simp
theorem kD_nil (f : Nat → Nat) (t m b : Nat) (D : List Nat) : kD f t [] (m + 1) b D = [] := by unfold kD; rw [kV_nil]; rfl
theorem kD_cons (f : Nat → Nat) (t k : Nat) (O : List Nat) (m b : Nat) (D : List Nat) : kD f t (k :: O) (m + 1) b D = kD f t O m (b ||| f k) (D ++ [k]) ++ kD f t O (m + 1) b D := by
  unfold kD
  rw [kV_cons, List.map_append, List.map_map]
  congr 1
  refine List.map_congr_left fun L _ => ?_
  simp
theorem kD_drop (f : Nat → Nat) (t : Nat) (O : List Nat) {i k : Nat} (h : O[i]? = some k) (m b : Nat) (D : List Nat) : kD f t (O.drop i) (m + 1) b D = kD f t (O.drop (i + 1)) m (b ||| f k) (D ++ [k]) ++ kD f t (O.drop (i + 1)) (m + 1) b D := by
  obtain ⟨h1, h2⟩ := List.getElem?_eq_some_iff.1 h
  rw [List.drop_eq_getElem_cons h1, h2, kD_cons]
theorem kD_short (f : Nat → Nat) (t : Nat) (O : List Nat) (m b : Nat) (D : List Nat) (h : O.length < m) : kD f t O m b D = [] := by unfold kD; rw [kV_len f t O m b h]; rfl
theorem kD_le (f : Nat → Nat) (t : Nat) (O : List Nat) (m b : Nat) (D : List Nat) : (kD f t O m b D).length ≤ 2 ^ O.length := by
  unfold kD
  rw [List.length_map]
  exact kV_le f t O m b
theorem kD_start (f : Nat → Nat) (t : Nat) (O : List Nat) (m b : Nat) : kD f t O m b [] = kV f t O m b := by
  unfold kD
  rw [show (fun x : List Nat => [] ++ x) = id from rfl, List.map_id]
/-- what is handed over, where one may be enough -/
def prS (s : Bool) (A : List (List Nat)) : List (List Nat) := if s = true then A.take 1 else A
def reS (s : Bool) (A : List (List Nat)) : Bool := s && !A.isEmpty
theorem prS_nil (s : Bool) : prS s [] = [] := by unfold prS; split <;> rfl
theorem reS_nil (s : Bool) : reS s [] = false := by unfold reS; simp
theorem prS_one (s : Bool) (L : List Nat) : prS s [L] = [L] := by unfold prS; split <;> rfl
theorem reS_one (s : Bool) (L : List Nat) : reS s [L] = s := by unfold reS; simp
theorem prS_stop {s : Bool} {A : List (List Nat)} (h : reS s A = true) (B : List (List Nat)) : prS s (A ++ B) = prS s A ∧ reS s (A ++ B) = true := by
  unfold reS prS at *
  cases A with
  | nil => simp at h
  | cons L A =>
    simp at h
    subst h
    simp
theorem prS_go {s : Bool} {A : List (List Nat)} (h : reS s A = false) (B : List (List Nat)) : prS s (A ++ B) = prS s A ++ prS s B ∧ reS s (A ++ B) = reS s B := by
  unfold reS prS at *
  cases s with
  | false => simp
  | true =>
    cases A with
    | nil => simp
    | cons L A => simp at h
theorem prS_keep {s : Bool} {A : List (List Nat)} (h : reS s A = false) (hs : s = true) : prS s A = [] := by
  unfold reS prS at *
  subst hs
  cases A with
  | nil => rfl
  | cons L A => simp at h
theorem prS_len (s : Bool) (A : List (List Nat)) : (prS s A).length ≤ A.length := by
  unfold prS
  split
  · rw [List.length_take]; omega
  · exact Nat.le_refl _
/-- what the reference has laid up behind the first i -/
def kA (f : Nat → Nat) (t : Nat) (O : List Nat) (m b : Nat) (D : List Nat) : Nat → List (List Nat)
  | 0 => []
  | i + 1 => kA f t O m b D i ++ kD f t (O.drop (i + 1)) m (b ||| f O[i]!) (D ++ [O[i]!])
theorem kA_0 (f : Nat → Nat) (t : Nat) (O : List Nat) (m b : Nat) (D : List Nat) : kA f t O m b D 0 = [] := rfl
theorem kA_s (f : Nat → Nat) (t : Nat) (O : List Nat) (m b : Nat) (D : List Nat) {i k : Nat} (h : O[i]? = some k) : kA f t O m b D (i + 1) = kA f t O m b D i ++ kD f t (O.drop (i + 1)) m (b ||| f k) (D ++ [k]) := by
  obtain ⟨h1, h2⟩ := List.getElem?_eq_some_iff.1 h
  rw [kA, getElem!_pos O i h1, h2]
theorem kA_drop (f : Nat → Nat) (t : Nat) (O : List Nat) (m b : Nat) (D : List Nat) : ∀ i, i ≤ O.length → kA f t O m b D i ++ kD f t (O.drop i) (m + 1) b D = kD f t O (m + 1) b D
  | 0, _ => by rw [kA_0]; rfl
  | i + 1, h => by
    have h1 : O[i]? = some O[i] := List.getElem?_eq_getElem (by omega)
    have h2 := kA_drop f t O m b D i (by omega)
    rw [kD_drop f t O h1, ← List.append_assoc] at h2
    rw [kA_s f t O m b D h1]
    exact h2
theorem kA_all (f : Nat → Nat) (t : Nat) (O : List Nat) (m b : Nat) (D : List Nat) : kA f t O m b D O.length = kD f t O (m + 1) b D := by
  have := kA_drop f t O m b D O.length (Nat.le_refl _)
  rwa [List.drop_length, kD_nil, List.append_nil] at this
theorem kA_le (f : Nat → Nat) (t : Nat) (O : List Nat) (m b : Nat) (D : List Nat) {i : Nat} (h : i ≤ O.length) : (kA f t O m b D i).length ≤ (kD f t O (m + 1) b D).length := by
  rw [← kA_drop f t O m b D i h, List.length_append]
  exact Nat.le_add_right _ _
attribute [irreducible] kA kD
end Go.Proofs.Ytlifhoajamnehaa
