/- Pict: contracts of functions, and lemmas, for this seat. Conditions: as each states. -/
import Derived.Test.YtadnfocbfabjnaaBig
import Derived.Test.YtadnfocbfabjnaaFitM
import Derived.Test.YtadnfocbfabjnaaLaw
import Derived.Test.YtadnfocbfabjnaaConv
import Derived.Test.YtadnfocbfabjnaaSets2
set_option linter.unusedVariables false
set_option maxRecDepth 100000
set_option maxHeartbeats 1000000
namespace Go.Proofs.Ytadnfocbfabjnaa
open Go Go.RowKit Instr
/-! pictures: 36 numbers in a row -/
theorem wpList_fieldAt {P : Program} {ops : Array Oper} {rest : List Oper} {o : Oper} {a : Act} {w : World} {Q : Exit → Act → World → Prop} {v : Value} {T : TypeId} {x : Operand} {f : Nat} (hgd : o.guard = none) (ho : o.op = .fieldAddr T x f) (hv : (execOp a.eval o).run P w = .ok (.value v) w)
    (k : wpList P ops Q rest (a.put o.dst v) w) : wpList P ops Q (o :: rest) a w := wpList_value hgd hv k
theorem sizeIP : (Try.prog.info? 57).map (·.size) = some 36 := by kernel_rfl
theorem szIP (g : Nat → Int) : (Try.prog.info? 57).map (·.size) = some (av 36 g).size := by rw [av_size]; exact sizeIP
theorem Big.loadIP {w : World} {b : Nat} {T : TypeId} {g : Nat → Int} (h : Big w b T 36 g) : (loadVar 57 ⟨b, 0, none⟩).run Try.prog w = .ok (.agg (av 36 g)) w :=
  run_loadVar_row w b T 57 (av 36 g) (0, 0) _ h Try.underlying57 rfl (by rw [av_size]; exact sizeIP)
theorem resultsIP {fn : Func} {p : Tmp} {tmps : Array Value} {w : World} {b : Nat} {T : TypeId} {g : Nat → Int} (h : fn.results = #[.cell p 57]) (hp : tmps.getD p undef = .pointer (some ⟨b, 0, none⟩)) (hb : Big w b T 36 g) : (results fn tmps).run Try.prog w = .ok (.agg (av 36 g)) w :=
  ret_cell h hp hb.loadIP
theorem resultsIP_tmp {fn : Func} {p u : Tmp} {tmps : Array Value} {w : World} {b : Nat} {T : TypeId} {g : Nat → Int} {x : Value} (h : fn.results = #[.cell p 57, .tmp u]) (hp : tmps.getD p undef = .pointer (some ⟨b, 0, none⟩)) (hx : tmps.getD u undef = x) (hb : Big w b T 36 g) : (results fn tmps).run Try.prog w = .ok (.tuple #[.agg (av 36 g), x]) w :=
  ret_cell_tmp h hp hx hb.loadIP
theorem pc_av (r : Nat → Int) : ((.agg #[.int .i64 (r 0), .int .i64 (r 1), .int .i64 (r 2), .int .i64 (r 3), .int .i64 (r 4), .int .i64 (r 5), .int .i64 (r 6), .int .i64 (r 7), .int .i64 (r 8), .int .i64 (r 9), .int .i64 (r 10), .int .i64 (r 11), .int .i64 (r 12), .int .i64 (r 13), .int .i64 (r 14), .int .i64 (r 15), .int .i64 (r 16), .int .i64 (r 17), .int .i64 (r 18), .int .i64 (r 19), .int .i64 (r 20), .int .i64 (r 21), .int .i64 (r 22), .int .i64 (r 23), .int .i64 (r 24), .int .i64 (r 25), .int .i64 (r 26), .int .i64 (r 27), .int .i64 (r 28), .int .i64 (r 29), .int .i64 (r 30), .int .i64 (r 31), .int .i64 (r 32), .int .i64 (r 33), .int .i64 (r 34), .int .i64 (r 35)]) : Value) = .agg (av 36 r) := by kernel_rfl
/-- are all inks valid? -/
def picB (p : Nat → Int) : Bool := (List.range 36).all fun k => inR (p k) 0 4
theorem picB_iff (p : Nat → Int) : picB p = true ↔ ∀ k, k < 36 → inR (p k) 0 4 = true := by
  unfold picB
  rw [List.all_eq_true]
  exact ⟨fun h k hk => h k (List.mem_range.2 hk), fun h k hk => h k (List.mem_range.1 hk)⟩
theorem picB_not {p : Nat → Int} {k : Nat} (hk : k < 36) (h : inR (p k) 0 4 = false) : picB p = false := by
  cases hb : picB p
  · rfl
  · rw [(picB_iff p).1 hb k hk] at h; cases h
/-- the cells with an ink -/
def inkP (p : Nat → Int) (c : Int) (k : Nat) : Bool := decide (p k = c)
theorem pk_lt (p : Nat → Bool) (k : Nat) (hk : k ≤ 36) : mkN p k < 68719476736 := Nat.lt_of_lt_of_le (mkN_lt p k) (Nat.pow_le_pow_right (by omega) hk)
theorem pk_flip (p : Nat → Bool) (k : Nat) (hk : k < 36) (h : p k = true) : mkN p k ^^^ 2 ^ k = mkN p (k + 1) :=
  ext36 (xor36 (pk_lt p k (by omega)) (pow36 hk)) (pk_lt p (k + 1) (by omega)) fun j hj => by
    rw [Nat.testBit_xor, testBit_mkN, testBit_mkN, Nat.testBit_two_pow]
    by_cases e : k = j
    · subst e
      rw [h, decide_eq_true rfl, decide_eq_true (show k < k + 1 by omega), decide_eq_false (Nat.lt_irrefl k)]; rfl
    · rw [decide_eq_false e]
      by_cases hl : j < k
      · rw [decide_eq_true hl, decide_eq_true (show j < k + 1 by omega)]; simp
      · rw [decide_eq_false hl, decide_eq_false (show ¬ j < k + 1 by omega)]; rfl
theorem pk_skip (p : Nat → Bool) (k : Nat) (hk : k < 36) (h : p k = false) : mkN p k = mkN p (k + 1) :=
  ext36 (pk_lt p k (by omega)) (pk_lt p (k + 1) (by omega)) fun j hj => by
    rw [testBit_mkN, testBit_mkN]
    by_cases e : k = j
    · subst e
      rw [h]; simp
    · by_cases hl : j < k
      · rw [decide_eq_true hl, decide_eq_true (show j < k + 1 by omega)]
      · rw [decide_eq_false hl, decide_eq_false (show ¬ j < k + 1 by omega)]
end Go.Proofs.Ytadnfocbfabjnaa
