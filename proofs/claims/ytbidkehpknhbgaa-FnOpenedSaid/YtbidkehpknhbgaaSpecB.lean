/- SpecB: contracts of functions, and lemmas, for this seat. Conditions: as each states. -/
import Derived.Test.YtbidkehpknhbgaaSpecA
import Derived.Test.YtbidkehpknhbgaaCls
import Derived.Test.YtbidkehpknhbgaaSets3
import Derived.Test.YtbidkehpknhbgaaLaw
set_option linter.unusedVariables false
set_option maxRecDepth 100000
set_option maxHeartbeats 1000000
namespace Go.Proofs.Ytbidkehpknhbgaa
open Go Go.RowKit
theorem cell_nat {x y : Int} (h : okC x y = true) : ∃ a b : Nat, x = a ∧ y = b ∧ a < 6 ∧ b < 6 := by
  have := (okC_iff x y).1 h
  exact ⟨x.toNat, y.toNat, by omega, by omega, by omega, by omega⟩
theorem l2Cell_is (x y : Int) (b : Bool) (h : okC x y = b) (w : World) : Calls Try.prog 244 #[(.agg #[.int .i64 (x), .int .i64 (y)])] w fun e w' => e = .returned (.bool b) ∧ Ext w w' := h ▸ l2Cell_any x y w
end Go.Proofs.Ytbidkehpknhbgaa
