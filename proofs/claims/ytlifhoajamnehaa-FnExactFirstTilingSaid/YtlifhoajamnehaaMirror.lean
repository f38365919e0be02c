/- Mirror: contracts of functions, and lemmas, for this seat. Conditions: as each states. -/
import Derived.Test.YtlifhoajamnehaaCount
set_option linter.unusedVariables false
set_option maxRecDepth 100000
set_option maxHeartbeats 1000000
namespace Go.Proofs.Ytlifhoajamnehaa
open Go Go.RowKit
/-- is a sheet not white? -/
noncomputable def nz (r : Nat → Int) : Bool := decide (setN r ≠ 0)
theorem setN_rw {n : Nat} (hn : n < 68719476736) : setN (rw n) = n :=
  eq_of_rows (setN_lt _) hn fun y hy => by
    have := setN_row ((vs_iff _).1 (vs_rw n)) y hy
    rw [rw_nat, rw_nat] at this
    omega
theorem l2Count_is (r : Nat → Int) (h : vs r = true) (w : World) : Calls Try.prog 104 #[(.agg #[.int .i64 (r 0), .int .i64 (r 1), .int .i64 (r 2), .int .i64 (r 3), .int .i64 (r 4), .int .i64 (r 5)])] w fun e w' => e = .returned (.int .i64 (cnt (setN r) : Nat)) ∧ Ext w w' := by
  have hs := setN_row ((vs_iff r).1 h)
  generalize setN r = n at *
  rw [hs 0 (by omega), hs 1 (by omega), hs 2 (by omega), hs 3 (by omega), hs 4 (by omega), hs 5 (by omega)]
  exact l2Count_n n w
end Go.Proofs.Ytlifhoajamnehaa
