/- Sets3: contracts of functions, and lemmas, for this seat. Conditions: as each states. -/
import Derived.Test.YtlifhoajamnehaaSets2
set_option linter.unusedVariables false
set_option maxRecDepth 100000
set_option maxHeartbeats 1000000
namespace Go.Proofs.Ytlifhoajamnehaa
open Go Go.RowKit
theorem fld6 (r : Nat → Int) : ∀ w, (Instr.field 26 (.agg #[.int .i64 (r 0), .int .i64 (r 1), .int .i64 (r 2), .int .i64 (r 3), .int .i64 (r 4), .int .i64 (r 5)]) 0).run Try.prog w = .ok (.agg #[.int .i64 (r 0), .int .i64 (r 1), .int .i64 (r 2), .int .i64 (r 3), .int .i64 (r 4), .int .i64 (r 5)]) w := fun w => (by kernel_rfl : (Instr.field 26 (.agg #[.int .i64 (r 0), .int .i64 (r 1), .int .i64 (r 2), .int .i64 (r 3), .int .i64 (r 4), .int .i64 (r 5)]) 0).run Try.prog w = .ok (.agg #[.int .i64 (r 0), .int .i64 (r 1), .int .i64 (r 2), .int .i64 (r 3), .int .i64 (r 4), .int .i64 (r 5)]) w)
theorem idx60 (r : Nat → Int) : ∀ w, (Instr.index 24 (.agg #[.int .i64 (r 0), .int .i64 (r 1), .int .i64 (r 2), .int .i64 (r 3), .int .i64 (r 4), .int .i64 (r 5)]) (.int .i64 0)).run Try.prog w = .ok (.int .i64 (r 0)) w := fun w => (by kernel_rfl : (Instr.index 24 (.agg #[.int .i64 (r 0), .int .i64 (r 1), .int .i64 (r 2), .int .i64 (r 3), .int .i64 (r 4), .int .i64 (r 5)]) (.int .i64 0)).run Try.prog w = .ok (.int .i64 (r 0)) w)
theorem rowShifted_any (r : Nat) (hr : r < 64) (dx : Int) (w : World) :
    Calls Try.prog 115 #[.int .i64 (r : Int), .int .i64 dx] w fun e w' => e = .returned (.int .i64 (rw (sh r (m6 dx) 0) 0)) ∧ Ext w w' := by
  have h1 := fld6 (rw (sh r (m6 dx) (m6 0)))
  have h2 := idx60 (rw (sh r (m6 dx) (m6 0)))
  go_enter Try.func115, Try.ntmps115
  go_wp2_with (first | (go_at_call 87; refine (shifted_any r (by omega) _ _ _).mono ?_; rintro e w1 ⟨rfl, hE⟩) | (go_at_call 94; refine (sheet_n _ (sh_lt _ _ _) _).mono ?_; rintro e w1 ⟨rfl, hE⟩))
  go_ret
  exact ⟨rfl, (by (repeat' (first | (with_reducible exact Ext.refl _) | (with_reducible assumption) | (with_reducible refine Ext.alloc ?_ _) | (with_reducible refine Ext.drew ?_) | (with_reducible refine Ext.drewN ?_ _) | (with_reducible refine Ext.setCell ?_ ?_ _) | (with_reducible refine Ext.trans ?_ (by assumption)))) <;> (first | (with_reducible assumption) | omega | (simp; done) | (simp; omega)))⟩
end Go.Proofs.Ytlifhoajamnehaa
