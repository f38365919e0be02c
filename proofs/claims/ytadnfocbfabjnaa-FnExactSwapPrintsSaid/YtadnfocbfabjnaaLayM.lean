/- LayM: contracts of functions, and lemmas, for this seat. Conditions: as each states. -/
import Derived.Test.YtadnfocbfabjnaaInkM
import Derived.Test.YtadnfocbfabjnaaPict
import Derived.Test.YtadnfocbfabjnaaVs
set_option linter.unusedVariables false
set_option maxRecDepth 100000
set_option maxHeartbeats 1000000
namespace Go.Proofs.Ytadnfocbfabjnaa
open Go Go.RowKit
/-! layers: a set and an ink each; the picture that they make, one behind the other -/
def lay1 (p : Nat → Int) (l : Nat × Int) (k : Nat) : Int := if l.1.testBit k then l.2 else p k
def picL (L : List (Nat × Int)) : Nat → Int := L.foldl lay1 (fun _ => 0)
theorem picL_0 : picL [] = fun _ => 0 := rfl
theorem picL_step (L : List (Nat × Int)) (j : Nat) (l : Nat × Int) (h : L[j]? = some l) : picL (L.take (j + 1)) = lay1 (picL (L.take j)) l := by
  unfold picL
  rw [List.take_add_one, h, List.foldl_append]
  rfl
theorem picL_all (L : List (Nat × Int)) : picL (L.take L.length) = picL L := by rw [List.take_length]
/-- layers in a row -/
def lays (L : List (Nat × Int)) : List Value := L.flatMap fun l => [Value.int .u64 (l.1 : Int), Value.int .i64 l.2]
theorem lays_append (L M : List (Nat × Int)) : lays (L ++ M) = lays L ++ lays M := List.flatMap_append
theorem lays_get : ∀ (L : List (Nat × Int)) (i : Nat) (l : Nat × Int), L[i]? = some l → (lays L)[i * 2]? = some (.int .u64 (l.1 : Int)) ∧ (lays L)[i * 2 + 1]? = some (.int .i64 l.2)
  | [], i, k, h => by simp at h
  | a :: L, 0, k, h => by
    have : a = k := by simpa using h
    subst this
    exact ⟨rfl, rfl⟩
  | a :: L, i + 1, k, h => by
    have := lays_get L i k (by simpa using h)
    have e : lays (a :: L) = [Value.int .u64 (a.1 : Int), Value.int .i64 a.2] ++ lays L := rfl
    rw [e, show (i + 1) * 2 = i * 2 + 2 by omega, show i * 2 + 2 + 1 = (i * 2 + 1) + 2 by omega]
    exact this
theorem lays_length (L : List (Nat × Int)) : (lays L).length = L.length * 2 := by
  induction L with
  | nil => rfl
  | cons x L ih =>
    show ([_, _] ++ lays L).length = _
    rw [List.length_append, ih, List.length_cons, List.length_cons, List.length_cons, List.length_nil]; omega
theorem lays_one (L : List (Nat × Int)) : ∀ u ∈ lays L, u.oneCell' = true := by
  intro u hu
  unfold lays at hu
  obtain ⟨k, _, hk⟩ := List.mem_flatMap.1 hu
  simp at hk
  rcases hk with rfl | rfl <;> rfl
/-- of the cells of a list, with an ink -/
def inkd (p : Nat → Int) (c : Int) (M : List Nat) (k : Nat) : Int := if k ∈ M then c else p k
theorem inkd_0 (p : Nat → Int) (c : Int) (k : Nat) : inkd p c [] k = p k := by unfold inkd; rw [if_neg (by simp)]
theorem inkd_step (p : Nat → Int) (c : Int) (M : List Nat) (j x : Nat) (h : M[j]? = some x) (i : Nat) : (if i = x then c else inkd p c (M.take j) i) = inkd p c (M.take (j + 1)) i := by
  unfold inkd
  rw [List.take_add_one, h]
  by_cases e : i = x
  · subst e; simp
  · rw [if_neg e]
    simp [e]
theorem inkd_all (p : Nat → Int) (c : Int) (n : Nat) (k : Nat) (hk : k < 36) : inkd p c (fl n.testBit 36) k = lay1 p (n, c) k := by
  unfold inkd lay1 fl
  simp [hk]
/-- made up to a cell -/
def madeTo (p : Nat → Int) (l : Nat × Int) (c i : Nat) : Int := if i < c then lay1 p l i else p i
theorem madeTo_0 (p : Nat → Int) (l : Nat × Int) (i : Nat) : madeTo p l 0 i = p i := by unfold madeTo; rw [if_neg (Nat.not_lt_zero i)]
theorem madeTo_hit (p : Nat → Int) (l : Nat × Int) (c i : Nat) (h : l.1.testBit c = true) : (if i = c then l.2 else madeTo p l c i) = madeTo p l (c + 1) i := by
  unfold madeTo
  by_cases e : i = c
  · subst e; rw [if_pos rfl, if_pos (by omega)]; unfold lay1; rw [if_pos h]
  · rw [if_neg e]
    by_cases hl : i < c
    · rw [if_pos hl, if_pos (by omega)]
    · rw [if_neg hl, if_neg (by omega)]
theorem madeTo_miss (p : Nat → Int) (l : Nat × Int) (c i : Nat) (h : l.1.testBit c = false) : madeTo p l c i = madeTo p l (c + 1) i := by
  unfold madeTo
  by_cases e : i = c
  · subst e; rw [if_neg (by omega), if_pos (by omega)]; unfold lay1; rw [h]; rfl
  · by_cases hl : i < c
    · rw [if_pos hl, if_pos (by omega)]
    · rw [if_neg hl, if_neg (by omega)]
theorem madeTo_all (p : Nat → Int) (l : Nat × Int) (i : Nat) (hi : i < 36) : madeTo p l 36 i = lay1 p l i := by unfold madeTo; rw [if_pos hi]
attribute [irreducible] lay1 inkd madeTo
/-! the layers of a list of prints -/
def stR (g : Nat → Int) (i k : Nat) : Int := g (i * 9 + (k + 1))
noncomputable def ownG (g : Nat → Int) (i : Nat) : Nat := sh (setN (stR g i)) (g (i * 9 + 7)).toNat (g (i * 9 + 8)).toNat
noncomputable def layG (g : Nat → Int) (i : Nat) : Nat × Int := (ownG g i, g (i * 9))
noncomputable def laysG (g : Nat → Int) (n : Nat) : List (Nat × Int) := (List.range n).map (layG g)
theorem laysG_succ (g : Nat → Int) (n : Nat) : laysG g (n + 1) = laysG g n ++ [layG g n] := by unfold laysG; rw [List.range_succ, List.map_append]; rfl
theorem laysG_length (g : Nat → Int) (n : Nat) : (laysG g n).length = n := by unfold laysG; simp
theorem laysG_get (g : Nat → Int) (n j : Nat) (h : j < n) : (laysG g n)[j]? = some (layG g j) := by unfold laysG; simp [h]
theorem ownG_lt (g : Nat → Int) (i : Nat) : ownG g i < 68719476736 := sh_lt _ _ _
end Go.Proofs.Ytadnfocbfabjnaa
