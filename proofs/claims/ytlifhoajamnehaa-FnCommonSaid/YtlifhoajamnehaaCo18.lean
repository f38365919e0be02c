/- VCut: contracts of functions, and lemmas, for this seat. Conditions: as each states. -/
import Derived.Test.YtlifhoajamnehaaCo09
set_option linter.unusedVariables false
set_option linter.unusedSimpArgs false
set_option maxRecDepth 100000
set_option maxHeartbeats 2000000
namespace Go.Proofs.Ytlifhoajamnehaa
open Go Go.RowKit Instr
theorem vBig_n (b : Bool) (ao : Option Addr) (n cap : Nat) (h : decide (65536 < n) = b) (w : World) : Calls Try.prog 8 #[.slice ao n cap] w fun e w' => e = .returned (.bool b) ∧ Ext w w' := by
  subst h
  go_enter Try.func8, Try.ntmps8
  go_wp2
  go_returns
  exact ⟨by simp; omega, (by (repeat' (first | (with_reducible exact Ext.refl _) | (with_reducible assumption) | (with_reducible refine Ext.alloc ?_ _) | (with_reducible refine Ext.drew ?_) | (with_reducible refine Ext.drewN ?_ _) | (with_reducible refine Ext.setCell ?_ ?_ _) | (with_reducible refine Ext.trans ?_ (by assumption)))) <;> (first | (with_reducible assumption) | omega | (simp; done) | (simp; omega)))⟩
end Go.Proofs.Ytlifhoajamnehaa
