/- FitM: contracts of functions, and lemmas, for this seat. Conditions: as each states. -/
import Derived.Test.YtlifhoajamnehaaMathB
import Derived.Test.YtlifhoajamnehaaBits
set_option linter.unusedVariables false
set_option maxRecDepth 100000
set_option maxHeartbeats 1000000
namespace Go.Proofs.Ytlifhoajamnehaa
open Go Go.RowKit
theorem src_perm : ∀ x, x < 6 → ∀ y, y < 6 → ((List.range 36).map (src x y)).isPerm (List.range 36) = true := by decide +kernel
theorem cnt_sh (m x y : Nat) (hx : x < 6) (hy : y < 6) : cnt (sh m x y) = cnt m := by
  have hp := List.isPerm_iff.1 (src_perm x hx y hy)
  have h1 : cnt (sh m x y) = ((List.range 36).filter (fun j => m.testBit (src x y j))).length := by
    unfold cnt
    rw [← lst_length]
    unfold lst
    refine congrArg List.length (List.filter_congr fun j hj => ?_)
    exact testBit_sh _ _ _ _ (List.mem_range.1 hj)
  have h2 : cnt m = ((List.range 36).filter m.testBit).length := by
    unfold cnt
    rw [← lst_length]
    rfl
  rw [h1, h2, ← (hp.filter m.testBit).length_eq, List.filter_map, List.length_map]
  rfl
theorem cnt_part {a z : Nat} (h : ∀ k, k < 36 → a.testBit k = true → z.testBit k = true) : ∀ m, m ≤ 36 → cntN a m ≤ cntN z m ∧ (cntN a m = cntN z m → ∀ k, k < m → a.testBit k = z.testBit k)
  | 0, _ => ⟨Nat.le_refl _, fun _ k hk => absurd hk (Nat.not_lt_zero k)⟩
  | m + 1, hm => by
    obtain ⟨h1, h2⟩ := cnt_part h m (by omega)
    have h3 := h m (by omega)
    rw [cntN, cntN]
    cases ha : a.testBit m
    · cases hz : z.testBit m
      · refine ⟨by simpa using h1, fun he k hk => ?_⟩
        rcases Nat.lt_or_ge k m with h4 | h4
        · exact h2 (by simpa using he) k h4
        · obtain rfl : k = m := by omega
          rw [ha, hz]
      · exact ⟨by simp; omega, fun he => by simp at he; omega⟩
    · have hz := h3 ha
      rw [hz]
      refine ⟨by simp; omega, fun he k hk => ?_⟩
      rcases Nat.lt_or_ge k m with h4 | h4
      · exact h2 (by simp at he; exact he) k h4
      · obtain rfl : k = m := by omega
        rw [ha, hz]
/-- as many cells in common as the stamp has: it is part of the sheet -/
theorem fits_iff (n z : Nat) (hz : z < 68719476736) : cnt (n &&& z) = cnt z ↔ z &&& cmp n = 0 := by
  constructor
  · intro h
    have key := (cnt_part (a := n &&& z) (z := z) (fun k hk hb => by rw [Nat.testBit_and] at hb; exact (Bool.and_eq_true_iff.1 hb).2) 36 (Nat.le_refl _)).2 h
    refine ext36 (and36 _ hz) (by omega) fun k hk => ?_
    have := key k hk
    rw [Nat.testBit_and] at this
    rw [Nat.testBit_and, testBit_cmp n k hk, Nat.zero_testBit]
    cases h1 : n.testBit k <;> cases h2 : z.testBit k <;> rw [h1, h2] at this <;> first | rfl | cases this
  · intro h
    refine congrArg cnt (ext36 (Nat.lt_of_le_of_lt Nat.and_le_right hz) hz fun k hk => ?_)
    have := congrArg (fun t => t.testBit k) h
    simp only [Nat.testBit_and, testBit_cmp n k hk, Nat.zero_testBit] at this
    rw [Nat.testBit_and]
    cases h1 : n.testBit k <;> cases h2 : z.testBit k <;> rw [h1, h2] at this <;> first | rfl | cases this
/-- of the numbers below k, how many have c as their value, where a set tells them -/
theorem cnt_mk (p : Nat → Bool) : ∀ k, k ≤ 36 → cntN (mkN p 36) k = ((List.range k).filter p).length
  | 0, _ => rfl
  | k + 1, hk => by
    rw [cntN, cnt_mk p k (by omega), testBit_mkN, decide_eq_true (show k < 36 by omega), Bool.true_and, List.range_succ, List.filter_append]
    cases h : p k <;> simp [h]
end Go.Proofs.Ytlifhoajamnehaa
