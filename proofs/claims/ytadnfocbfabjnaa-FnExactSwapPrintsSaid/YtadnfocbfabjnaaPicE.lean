/- PicE: contracts of functions, and lemmas, for this seat. Conditions: as each states. -/
import Derived.Test.YtadnfocbfabjnaaPicS
import Derived.Test.YtadnfocbfabjnaaMeet
set_option linter.unusedVariables false
set_option maxRecDepth 100000
set_option maxHeartbeats 1000000
namespace Go.Proofs.Ytadnfocbfabjnaa
open Go Go.RowKit Instr
/-! pictures compared -/
theorem items_eqP (r s : Nat → Int) (w : World) : ∀ l : List Nat, (∀ k ∈ l, k < 6) → (Op.eqItems 9997 3 1 #[.int .i64 (r 0), .int .i64 (r 1), .int .i64 (r 2), .int .i64 (r 3), .int .i64 (r 4), .int .i64 (r 5)] #[.int .i64 (s 0), .int .i64 (s 1), .int .i64 (s 2), .int .i64 (s 3), .int .i64 (s 4), .int .i64 (s 5)] l).run Try.prog w = .ok (l.all fun k => r k == s k) w
  | [], _ => rfl
  | k :: l, h => by
    rw [Op.eqItems]
    simp only [Sem.run_bind, part_at r k (h k (List.mem_cons_self ..)) w, part_at s k (h k (List.mem_cons_self ..)) w, Result.andThen_ok]
    rw [run_equalIn_int w 9996 3 .i64 .i64 (r k) (s k) Try.underlying3]
    simp only [Result.andThen_ok, List.all_cons]
    cases (r k == s k)
    · simp
    · simpa using items_eqP r s w l fun j hj => h j (List.mem_cons_of_mem _ hj)
theorem items6_eqP (g h : Nat → Int) (w : World) : ∀ l : List Nat, (∀ k ∈ l, k < 6) → (Op.eqItems 9998 24 6 (av 36 g) (av 36 h) l).run Try.prog w = .ok (l.all fun k => (List.range 6).all fun q => row6 g k q == row6 h k q) w
  | [], _ => rfl
  | k :: l, hl => by
    rw [Op.eqItems]
    simp only [Sem.run_bind, part_at6 g k (hl k (List.mem_cons_self ..)) w, part_at6 h k (hl k (List.mem_cons_self ..)) w, Result.andThen_ok]
    rw [run_equalIn_array w 9997 _ _ Try.underlying24 (i := (Try.prog.info? 3).getD default) (by kernel_rfl), show Try.prog.cellsOf 3 = 1 by kernel_rfl, items_eqP (row6 g k) (row6 h k) w _ (by simp)]
    simp only [Result.andThen_ok, List.all_cons]
    cases ((List.range 6).all fun q => row6 g k q == row6 h k q)
    · simp
    · simpa using items6_eqP g h w l fun j hj => hl j (List.mem_cons_of_mem _ hj)
theorem part_pic (g : Nat → Int) (w : World) : (part 55 (av 36 g) 0).run Try.prog w = .ok (.agg (av 36 g)) w := (by kernel_rfl : (part 55 (av 36 g) 0).run Try.prog w = .ok (.agg (av 36 g)) w)
theorem eql_runP (g h : Nat → Int) (w : World) : (Op.equalIn 10000 57 (.agg (av 36 g)) (.agg (av 36 h))).run Try.prog w = .ok (eq36 g h) w := by
  rw [run_equalIn_struct w 9999 57 _ _ (by kernel_rfl) (by kernel_rfl)]
  have e : (Try.prog.fieldsOf 57).toList = [⟨"Cells", 55, 0, false, "", "", 0⟩] := by kernel_rfl
  rw [e, Op.eqFields, if_pos (by decide)]
  simp only [Sem.run_bind, part_pic, Result.andThen_ok]
  rw [run_equalIn_array w 9998 _ _ Try.underlying55 (i := (Try.prog.info? 24).getD default) (by kernel_rfl), show Try.prog.cellsOf 24 = 6 by kernel_rfl, items6_eqP g h w _ (by simp)]
  rw [show ((List.range 6).all fun k => (List.range 6).all fun q => row6 g k q == row6 h k q) = eq36 g h from rfl]
  simp only [Result.andThen_ok]
  cases eq36 g h <;> simp [Op.eqFields]
theorem eqlP_is (g h : Nat → Int) (b : Bool) (e : eq36 g h = b) : ∀ w, (binOp .eql 57 (.agg (av 36 g)) (.agg (av 36 h))).run Try.prog w = .ok (.bool b) w := fun w => by
  rw [run_eql_struct, eql_runP, e]; rfl
theorem eq36_comm (g h : Nat → Int) : eq36 g h = eq36 h g := by
  unfold eq36
  refine congrArg _ (funext fun k => congrArg _ (funext fun q => ?_))
  exact Bool.eq_iff_iff.2 ⟨fun h => by simp at h ⊢; exact h.symm, fun h => by simp at h ⊢; exact h.symm⟩
end Go.Proofs.Ytadnfocbfabjnaa
