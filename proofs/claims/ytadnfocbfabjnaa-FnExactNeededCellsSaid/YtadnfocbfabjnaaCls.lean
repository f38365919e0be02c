/- Cls: contracts of functions, and lemmas, for this seat. Conditions: as each states. -/
import Derived.Test.YtadnfocbfabjnaaBase
import Derived.Test.YtadnfocbfabjnaaMathB
set_option linter.unusedVariables false
set_option maxRecDepth 100000
set_option maxHeartbeats 1000000
namespace Go.Proofs.Ytadnfocbfabjnaa
open Go Go.RowKit
theorem chz_bd (n k : Nat) (hn : n < 37) (hk : k < 37) : 0 ≤ (chz n k : Int) * ((n : Int) - (k : Int)) + 370000000000 ∧ (chz n k : Int) * ((n : Int) - (k : Int)) ≤ 370000000000 := by
  have h := chz_le n hn k hk
  have h1 : (chz n k : Int) ≤ 10000000000 := by omega
  have h0 : (0 : Int) ≤ (chz n k : Int) := Int.natCast_nonneg _
  have e : (chz n k : Int) * ((n : Int) - (k : Int)) = (chz n k : Int) * (n : Int) - (chz n k : Int) * (k : Int) := Int.mul_sub _ _ _
  have a1 : (chz n k : Int) * (n : Int) ≤ 10000000000 * 37 := Int.mul_le_mul h1 (by omega) (by omega) (by omega)
  have a2 : (chz n k : Int) * (k : Int) ≤ 10000000000 * 37 := Int.mul_le_mul h1 (by omega) (by omega) (by omega)
  have a3 : (0 : Int) ≤ (chz n k : Int) * (n : Int) := Int.mul_nonneg h0 (by omega)
  have a4 : (0 : Int) ≤ (chz n k : Int) * (k : Int) := Int.mul_nonneg h0 (by omega)
  omega
theorem okO_m6 (x y k : Nat) : okO x y k = (decide (m6 ((k : Int) * (x : Int)) = 0) && decide (m6 ((k : Int) * (y : Int)) = 0)) := by
  rw [okO_int]
  have e1 : (m6 ((k : Int) * (x : Int)) = 0) ↔ ((k : Int) * (x : Int) % 6 = 0) := by rw [← m6_eq]; omega
  have e2 : (m6 ((k : Int) * (y : Int)) = 0) ↔ ((k : Int) * (y : Int) % 6 = 0) := by rw [← m6_eq]; omega
  simp only [e1, e2]
theorem okC_inR (x y : Int) : okC x y = (inR x 0 5 && inR y 0 5) := by
  unfold okC inR
  rw [Bool.eq_iff_iff]
  simp only [Bool.and_eq_true, decide_eq_true_eq]
  omega
theorem okC_iff (x y : Int) : okC x y = true ↔ (0 ≤ x ∧ x < 6) ∧ 0 ≤ y ∧ y < 6 := by
  unfold okC
  simp only [Bool.and_eq_true, decide_eq_true_eq]
  omega
theorem l2Cell_any (x y : Int) (w : World) : Calls Try.prog 228 #[(.agg #[.int .i64 (x), .int .i64 (y)])] w fun e w' => e = .returned (.bool (okC x y)) ∧ Ext w w' := by
  go_enter Try.func228, Try.ntmps228
  have HC := Lib.hid (okC_inR x y)
  by_cases h : inR x 0 5 = true
  · go_wp2_with (go_at_call 126; refine (l1In_any _ _ _ _).mono ?_; rintro e w' ⟨rfl, rfl⟩)
    go_ret
    exact ⟨ret_bool (by rw [HC.out, h]; rfl), (by (repeat' (first | (with_reducible exact Ext.refl _) | (with_reducible assumption) | (with_reducible refine Ext.alloc ?_ _) | (with_reducible refine Ext.drew ?_) | (with_reducible refine Ext.drewN ?_ _) | (with_reducible refine Ext.setCell ?_ ?_ _) | (with_reducible refine Ext.trans ?_ (by assumption)))) <;> (first | (with_reducible assumption) | omega | (simp; done) | (simp; omega)))⟩
  · go_wp2_with (go_at_call 126; refine (l1In_any _ _ _ _).mono ?_; rintro e w' ⟨rfl, rfl⟩)
    go_ret
    exact ⟨ret_bool (by rw [HC.out]; simp [h]), (by (repeat' (first | (with_reducible exact Ext.refl _) | (with_reducible assumption) | (with_reducible refine Ext.alloc ?_ _) | (with_reducible refine Ext.drew ?_) | (with_reducible refine Ext.drewN ?_ _) | (with_reducible refine Ext.setCell ?_ ?_ _) | (with_reducible refine Ext.trans ?_ (by assumption)))) <;> (first | (with_reducible assumption) | omega | (simp; done) | (simp; omega)))⟩
end Go.Proofs.Ytadnfocbfabjnaa
