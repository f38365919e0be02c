/- FCl: contracts of functions, and lemmas, for this seat. Conditions: as each states. -/
import Derived.Test.YtadnfocbfabjnabRefl
import Derived.Test.YtadnfocbfabjnabSprD
import Derived.Test.YtadnfocbfabjnabHit2
import Derived.Test.YtadnfocbfabjnabDrawV
set_option linter.unusedVariables false
set_option maxRecDepth 100000
set_option maxHeartbeats 1000000
namespace Go.Proofs.Ytadnfocbfabjnab
open Go Go.RowKit Instr
/-- a call with one answer, in every world, that only adds to the heap -/
def Cl (f : FuncId) (args : Array Value) (v : Value) : Prop := ∀ w, Calls Try.prog f args w fun e w' => e = .returned v ∧ Ext w w'
theorem vs2_l {r s : Nat → Int} (h : vs r = false) : (vs r && vs s) = false := by rw [h]; rfl
theorem vs2_r {r s : Nat → Int} (h : vs s = false) : (vs r && vs s) = false := by rw [h, Bool.and_false]
theorem zero_rw : (fun _ => 0 : Nat → Int) = rw 0 := funext fun j => (rw0 j).symm
theorem and_cmp_lt (a b : Nat) (ha : a < 68719476736) : a &&& cmp b < 68719476736 := and36 _ ha
theorem dec_sb {a b : Nat} (ha : a < 68719476736) (h : sb a b) : decide (a &&& cmp b = 0) = true := decide_eq_true ((sb_iff ha).2 h)
end Go.Proofs.Ytadnfocbfabjnab
