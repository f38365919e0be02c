/- Eql: contracts of functions, and lemmas, for this seat. Conditions: as each states. -/
import Derived.Test.YtlifhoajamnehaaBits
import Derived.Laws.StructEq
import Derived.ChangeKeysEq
set_option linter.unusedVariables false
set_option maxRecDepth 100000
set_option maxHeartbeats 1000000
namespace Go.Proofs.Ytlifhoajamnehaa
open Go Go.RowKit Instr
def eqS (r s : Nat → Int) : Bool := r 0 == s 0 && (r 1 == s 1 && (r 2 == s 2 && (r 3 == s 3 && (r 4 == s 4 && r 5 == s 5))))
theorem eqS_same (r : Nat → Int) : eqS r r = true := by unfold eqS; simp
theorem eqS_rw {a b : Nat} (ha : a < 68719476736) (hb : b < 68719476736) : eqS (rw a) (rw b) = decide (a = b) := by
  by_cases h : a = b
  · subst h; rw [eqS_same, decide_eq_true rfl]
  · rw [decide_eq_false h, ← Bool.not_eq_true]
    intro he
    unfold eqS at he
    simp only [Bool.and_eq_true, beq_iff_eq] at he
    obtain ⟨h0, h1, h2, h3, h4, h5⟩ := he
    refine h (eq_of_rows ha hb fun y hy => ?_)
    have key : rw a y = rw b y := by
      match y, hy with
      | 0, _ => exact h0
      | 1, _ => exact h1
      | 2, _ => exact h2
      | 3, _ => exact h3
      | 4, _ => exact h4
      | 5, _ => exact h5
    rw [rw_nat, rw_nat] at key
    omega
theorem part_a6 (r : Nat → Int) (w : World) : (part 24 #[.int .i64 (r 0), .int .i64 (r 1), .int .i64 (r 2), .int .i64 (r 3), .int .i64 (r 4), .int .i64 (r 5)] 0).run Try.prog w = .ok (.agg #[.int .i64 (r 0), .int .i64 (r 1), .int .i64 (r 2), .int .i64 (r 3), .int .i64 (r 4), .int .i64 (r 5)]) w := by kernel_rfl
theorem part_at (r : Nat → Int) (k : Nat) (hk : k < 6) (w : World) : (part 3 #[.int .i64 (r 0), .int .i64 (r 1), .int .i64 (r 2), .int .i64 (r 3), .int .i64 (r 4), .int .i64 (r 5)] (k * 1)).run Try.prog w = .ok (.int .i64 (r k)) w := by
  match k, hk with
  | 0, _ => exact (by kernel_rfl : (part 3 #[.int .i64 (r 0), .int .i64 (r 1), .int .i64 (r 2), .int .i64 (r 3), .int .i64 (r 4), .int .i64 (r 5)] (0 * 1)).run Try.prog w = .ok (.int .i64 (r 0)) w)
  | 1, _ => exact (by kernel_rfl : (part 3 #[.int .i64 (r 0), .int .i64 (r 1), .int .i64 (r 2), .int .i64 (r 3), .int .i64 (r 4), .int .i64 (r 5)] (1 * 1)).run Try.prog w = .ok (.int .i64 (r 1)) w)
  | 2, _ => exact (by kernel_rfl : (part 3 #[.int .i64 (r 0), .int .i64 (r 1), .int .i64 (r 2), .int .i64 (r 3), .int .i64 (r 4), .int .i64 (r 5)] (2 * 1)).run Try.prog w = .ok (.int .i64 (r 2)) w)
  | 3, _ => exact (by kernel_rfl : (part 3 #[.int .i64 (r 0), .int .i64 (r 1), .int .i64 (r 2), .int .i64 (r 3), .int .i64 (r 4), .int .i64 (r 5)] (3 * 1)).run Try.prog w = .ok (.int .i64 (r 3)) w)
  | 4, _ => exact (by kernel_rfl : (part 3 #[.int .i64 (r 0), .int .i64 (r 1), .int .i64 (r 2), .int .i64 (r 3), .int .i64 (r 4), .int .i64 (r 5)] (4 * 1)).run Try.prog w = .ok (.int .i64 (r 4)) w)
  | 5, _ => exact (by kernel_rfl : (part 3 #[.int .i64 (r 0), .int .i64 (r 1), .int .i64 (r 2), .int .i64 (r 3), .int .i64 (r 4), .int .i64 (r 5)] (5 * 1)).run Try.prog w = .ok (.int .i64 (r 5)) w)
theorem items_eq (r s : Nat → Int) (w : World) : ∀ l : List Nat, (∀ k ∈ l, k < 6) → (Op.eqItems 9998 3 1 #[.int .i64 (r 0), .int .i64 (r 1), .int .i64 (r 2), .int .i64 (r 3), .int .i64 (r 4), .int .i64 (r 5)] #[.int .i64 (s 0), .int .i64 (s 1), .int .i64 (s 2), .int .i64 (s 3), .int .i64 (s 4), .int .i64 (s 5)] l).run Try.prog w = .ok (l.all fun k => r k == s k) w
  | [], _ => rfl
  | k :: l, h => by
    rw [Op.eqItems]
    simp only [Sem.run_bind, part_at r k (h k (List.mem_cons_self ..)) w, part_at s k (h k (List.mem_cons_self ..)) w, Result.andThen_ok]
    rw [run_equalIn_int w 9997 3 .i64 .i64 (r k) (s k) Try.underlying3]
    simp only [Result.andThen_ok, List.all_cons]
    cases (r k == s k)
    · simp
    · simpa using items_eq r s w l fun j hj => h j (List.mem_cons_of_mem _ hj)
theorem eql_run (r s : Nat → Int) (w : World) : (Op.equalIn 10000 26 (.agg #[.int .i64 (r 0), .int .i64 (r 1), .int .i64 (r 2), .int .i64 (r 3), .int .i64 (r 4), .int .i64 (r 5)]) (.agg #[.int .i64 (s 0), .int .i64 (s 1), .int .i64 (s 2), .int .i64 (s 3), .int .i64 (s 4), .int .i64 (s 5)])).run Try.prog w = .ok (eqS r s) w := by
  rw [run_equalIn_struct w 9999 26 _ _ (by kernel_rfl) (by kernel_rfl)]
  have e : (Try.prog.fieldsOf 26).toList = [⟨"Rows", 24, 0, false, "", "", 0⟩] := by kernel_rfl
  rw [e, Op.eqFields, if_pos (by decide)]
  simp only [Sem.run_bind, part_a6, Result.andThen_ok]
  rw [run_equalIn_array w 9998 _ _ Try.underlying24 (i := (Try.prog.info? 3).getD default) (by kernel_rfl), show Try.prog.cellsOf 3 = 1 by kernel_rfl, items_eq r s w _ (by simp)]
  have h : ((List.range 6).all fun k => r k == s k) = eqS r s := by
    unfold eqS
    simp [List.range_succ]
  rw [h]
  simp only [Result.andThen_ok]
  cases eqS r s <;> simp [Op.eqFields]
theorem eql_is (r s : Nat → Int) (b : Bool) (h : eqS r s = b) : ∀ w, (binOp .eql 26 (.agg #[.int .i64 (r 0), .int .i64 (r 1), .int .i64 (r 2), .int .i64 (r 3), .int .i64 (r 4), .int .i64 (r 5)]) (.agg #[.int .i64 (s 0), .int .i64 (s 1), .int .i64 (s 2), .int .i64 (s 3), .int .i64 (s 4), .int .i64 (s 5)])).run Try.prog w = .ok (.bool b) w := fun w => by
  rw [run_eql_struct, eql_run, h]; rfl
theorem neq_is (r s : Nat → Int) (b : Bool) (h : (!eqS r s) = b) : ∀ w, (binOp .neq 26 (.agg #[.int .i64 (r 0), .int .i64 (r 1), .int .i64 (r 2), .int .i64 (r 3), .int .i64 (r 4), .int .i64 (r 5)]) (.agg #[.int .i64 (s 0), .int .i64 (s 1), .int .i64 (s 2), .int .i64 (s 3), .int .i64 (s 4), .int .i64 (s 5)])).run Try.prog w = .ok (.bool b) w := fun w => by
  rw [run_neq_struct, eql_run, ← h]; rfl
theorem eql_same (n : Nat) : ∀ w, (binOp .eql 26 (.agg #[.int .i64 (rw n 0), .int .i64 (rw n 1), .int .i64 (rw n 2), .int .i64 (rw n 3), .int .i64 (rw n 4), .int .i64 (rw n 5)]) (.agg #[.int .i64 (rw n 0), .int .i64 (rw n 1), .int .i64 (rw n 2), .int .i64 (rw n 3), .int .i64 (rw n 4), .int .i64 (rw n 5)])).run Try.prog w = .ok (.bool true) w := eql_is _ _ _ (eqS_same _)
theorem eql_ne {a b : Nat} (ha : a < 68719476736) (hb : b < 68719476736) (h : a ≠ b) : ∀ w, (binOp .eql 26 (.agg #[.int .i64 (rw a 0), .int .i64 (rw a 1), .int .i64 (rw a 2), .int .i64 (rw a 3), .int .i64 (rw a 4), .int .i64 (rw a 5)]) (.agg #[.int .i64 (rw b 0), .int .i64 (rw b 1), .int .i64 (rw b 2), .int .i64 (rw b 3), .int .i64 (rw b 4), .int .i64 (rw b 5)])).run Try.prog w = .ok (.bool false) w := eql_is _ _ _ (by rw [eqS_rw ha hb]; exact decide_eq_false h)
end Go.Proofs.Ytlifhoajamnehaa
