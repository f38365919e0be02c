/- Nbr: contracts of functions, and lemmas, for this seat. Conditions: as each states. -/
import Derived.Test.YtadnfocbfabjnaaInkM
import Derived.Test.YtadnfocbfabjnaaSl
set_option linter.unusedVariables false
set_option maxRecDepth 100000
set_option maxHeartbeats 1000000
namespace Go.Proofs.Ytadnfocbfabjnaa
open Go Go.RowKit Instr
/-- all cells up to j are valid -/
def cellsOk (g : Nat → Int) (j : Nat) : Prop := ∀ i, i < j → okC (g (i * 2)) (g (i * 2 + 1)) = true
/-- the number of cell i -/
def nbr (g : Nat → Int) (i : Nat) : Nat := ((g (i * 2 + 1)).toNat * 6 + (g (i * 2)).toNat)
def nbrs (g : Nat → Int) (n : Nat) : List Nat := (List.range n).map (nbr g)
theorem nbrs_len (g : Nat → Int) (n : Nat) : (nbrs g n).length = n := by unfold nbrs; simp
theorem nbrs_get (g : Nat → Int) (n i : Nat) (h : i < n) : (nbrs g n)[i]? = some (nbr g i) := by unfold nbrs; simp [h]
theorem nbrs_succ (g : Nat → Int) (n : Nat) : nbrs g (n + 1) = nbrs g n ++ [nbr g n] := by unfold nbrs; rw [List.range_succ, List.map_append]; rfl
theorem nbr_xy {g : Nat → Int} {i : Nat} (h : okC (g (i * 2)) (g (i * 2 + 1)) = true) : nbr g i < 36 ∧ g (i * 2) = ((nbr g i % 6 : Nat) : Int) ∧ g (i * 2 + 1) = ((nbr g i / 6 : Nat) : Int) := by
  rw [okC_iff] at h
  unfold nbr
  omega
theorem nbrs_lt {g : Nat → Int} {n : Nat} (h : cellsOk g n) (i k : Nat) (hk : (nbrs g n)[i]? = some k) : k < 36 := by
  have hi : i < n := by have := (List.getElem?_eq_some_iff.1 hk).1; rw [nbrs_len] at this; exact this
  rw [nbrs_get g n i hi] at hk
  obtain rfl : nbr g i = k := by simpa using hk
  exact (nbr_xy (h i hi)).1
theorem pxy_nbrs {g : Nat → Int} : ∀ {n : Nat}, cellsOk g n → pxy (nbrs g n) = Gl (n * 2) g
  | 0, _ => rfl
  | n + 1, h => by
    obtain ⟨_, e1, e2⟩ := nbr_xy (h n (Nat.lt_succ_self n))
    have ih := pxy_nbrs (n := n) fun i hi => h i (Nat.lt_succ_of_lt hi)
    have e : pxy [nbr g n] = [.int .i64 ((nbr g n % 6 : Nat) : Int), .int .i64 ((nbr g n / 6 : Nat) : Int)] := rfl
    rw [nbrs_succ, pxy_append, ih, e, ← e1, ← e2]
    unfold Gl
    rw [show (n + 1) * 2 = n * 2 + 1 + 1 by omega, List.range_succ, List.range_succ, List.map_append, List.map_append, List.append_assoc]
    rfl
theorem cellsOk_or (g : Nat → Int) (n : Nat) : cellsOk g n ∨ ∃ j, j < n ∧ okC (g (j * 2)) (g (j * 2 + 1)) = false := by
  by_cases h : ∃ j, j < n ∧ okC (g (j * 2)) (g (j * 2 + 1)) = false
  · exact .inr h
  · refine .inl fun i hi => ?_
    cases hc : okC (g (i * 2)) (g (i * 2 + 1))
    · exact absurd ⟨i, hi, hc⟩ h
    · rfl
theorem first_bad (p : Nat → Bool) : ∀ n, (∀ j, j < n → p j = true) ∨ ∃ j, j < n ∧ p j = false ∧ ∀ i, i < j → p i = true
  | 0 => .inl fun j hj => absurd hj (Nat.not_lt_zero _)
  | n + 1 => by
    rcases first_bad p n with h | ⟨j, h1, h2, h3⟩
    · cases hp : p n
      · exact .inr ⟨n, Nat.lt_succ_self n, hp, h⟩
      · refine .inl fun j hj => ?_
        rcases Nat.lt_or_ge j n with h4 | h4
        · exact h j h4
        · obtain rfl : j = n := by omega
          exact hp
    · exact .inr ⟨j, by omega, h2, h3⟩
end Go.Proofs.Ytadnfocbfabjnaa
