/- SpecB: contracts of functions, and lemmas, for this seat. Conditions: as each states. -/
import Derived.Test.YtadnfocbfabjnaaSpecA
import Derived.Test.YtadnfocbfabjnaaCls
import Derived.Test.YtadnfocbfabjnaaSets3
import Derived.Test.YtadnfocbfabjnaaLaw
set_option linter.unusedVariables false
set_option maxRecDepth 100000
set_option maxHeartbeats 1000000
namespace Go.Proofs.Ytadnfocbfabjnaa
open Go Go.RowKit
theorem cell_nat {x y : Int} (h : okC x y = true) : ∃ a b : Nat, x = a ∧ y = b ∧ a < 6 ∧ b < 6 := by
  have := (okC_iff x y).1 h
  exact ⟨x.toNat, y.toNat, by omega, by omega, by omega, by omega⟩
theorem l2Cell_is (x y : Int) (b : Bool) (h : okC x y = b) (w : World) : Calls Try.prog 228 #[(.agg #[.int .i64 (x), .int .i64 (y)])] w fun e w' => e = .returned (.bool b) ∧ Ext w w' := h ▸ l2Cell_any x y w
end Go.Proofs.Ytadnfocbfabjnaa
