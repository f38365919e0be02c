/- Law: contracts of functions, and lemmas, for this seat. Conditions: as each states. -/
import Derived.Test.YtlifhoajamnehaaBase
import Derived.Laws.CopyRow
import Derived.Laws.Rows
set_option linter.unusedVariables false
set_option maxRecDepth 100000
set_option maxHeartbeats 1000000
namespace Go.Proofs.Ytlifhoajamnehaa
open Go Go.RowKit
/-- only block b has turned -/
structure Only (b : Nat) (w w' : World) : Prop where
  os : w'.os = w.os
  tape : w'.tape = w.tape
  output : w'.output = w.output
  size : w'.heap.size = w.heap.size
  block : ∀ k, k ≠ b → w'.heap[k]? = w.heap[k]?
theorem Only.ext {b : Nat} {W w w' : World} (h : Only b w w') (hx : Ext W w) (hb : W.heap.size ≤ b) : Ext W w' :=
  have k : Below W.heap.size W w := hx
  ⟨h.os.trans k.os, h.tape.trans k.tape, h.output.trans k.output, by rw [h.size]; exact k.size, fun i hi => (h.block i (by omega)).trans (k.block i hi)⟩
theorem only_setRow (w : World) (b : Nat) (cs : Array Value) : Only b w (w.setRow b cs) :=
  ⟨rfl, rfl, rfl, by simp, fun k hk => by simp only [World.setRow, Array.getElem?_modify]; rw [if_neg (fun h => hk h.symm)]⟩
theorem run_store_row {P : Program} {T : TypeId} {b : Nat} {cs c0 : Array Value} {T0 : TypeId} {w : World} (hcell : w.heap[b]? = some (.cells c0 T0)) (hsz : cs.size = c0.size) (hT : (P.info? T).map (·.size) = some cs.size) (hone : ∀ v ∈ cs.toList, v.oneCell' = true) :
    (Instr.storeAt T (.pointer (some ⟨b, 0, none⟩)) (.agg cs)).run P w = .ok () (w.setRow b cs) := by
  obtain ⟨i, hi, hs⟩ := Option.map_eq_some_iff.1 hT
  have h1 : (sizeOf T).run P w = .ok cs.size w := by simp [sizeOf, typeInfo, hi, hs, go_sem]
  have h2 := run_storeCells_at (P := P) b 0 T0 cs.toList 0 c0 w hcell (by simp; omega) hone
  have e : (c0.toList.take (0 + 0) ++ cs.toList ++ c0.toList.drop (0 + 0 + cs.toList.length)).toArray = cs := by
    have : c0.toList.drop (0 + 0 + cs.toList.length) = [] := List.drop_eq_nil_of_le (by simp; omega)
    rw [this]; simp
  rw [e] at h2
  simp [Instr.storeAt, Instr.sureAddr, storeVar, Value.cells, h1, h2, Sem.run_bind, Result.andThen]
theorem wpList_store_new {P : Program} {ops : Array Oper} {rest : List Oper} {o : Oper} {a : Act} {w : World} {Q : Exit → Act → World → Prop} {T : TypeId} {x y : Operand} {b : Nat} {cs c0 : Array Value} {T0 : TypeId} (hgd : o.guard = none) (ho : o.op = .store T x y)
    (hx : a.eval x = .pointer (some ⟨b, 0, none⟩)) (hy : a.eval y = .agg cs) (hcell : w.heap[b]? = some (.cells c0 T0)) (hsz : cs.size = c0.size) (hT : (P.info? T).map (·.size) = some cs.size) (hone : ∀ v ∈ cs.toList, v.oneCell' = true)
    (k : ∀ w1, Only b w w1 → w1.heap[b]? = some (.cells cs T0) → wpList P ops Q rest (a.put o.dst undef) w1) : wpList P ops Q (o :: rest) a w := by
  have hr := run_store_row (P := P) hcell hsz hT hone
  have hk := k (w.setRow b cs) (only_setRow w b cs) (setRow_heap w b c0 cs T0 (0, 0) hcell)
  have hw : Region.wanted o (yielded ops a.tmps) = true := by simp [Region.wanted, hgd]
  simp only [wpList]
  rw [if_pos hw]
  refine .inl ?_
  unfold Oper.wp
  have he : (execOp a.eval o).run P w = .ok .skip (w.setRow b cs) := by
    simp only [execOp, ho, hx, hy]
    simp [hr, Result.andThen]
  rw [he]
  exact hk
theorem row_cell {w : World} {b : Nat} {cs : Array Value} {T : TypeId} (h : w.heap[b]? = some (.cells cs T)) (j : Nat) : w.cell? ⟨b, j, none⟩ = cs[j]? := cell_of_row w b j cs T (0, 0) h
theorem row_lt {w : World} {b : Nat} {o : Obj} (h : w.heap[b]? = some o) : b < w.heap.size := by
  rcases Nat.lt_or_ge b w.heap.size with h1 | h1
  · exact h1
  · rw [Array.getElem?_eq_none h1] at h; cases h
/-- the store of a value into a new block -/
theorem fill_store {P : Program} {W : World} {o : Oper} {a : Act} {T : TypeId} {x y : Operand} {v : Value} {cs c0 : Array Value} {T0 : TypeId} (ho : o.op = .store T x y)
    (hx : a.eval x = v) (hy : a.eval y = .agg cs) (hsz : cs.size = c0.size) (hT : (P.info? T).map (·.size) = some cs.size) (hone : ∀ v ∈ cs.toList, v.oneCell' = true) :
    Fill P W o a (fun w => True ∧ Fresh W (c0, T0) v w) (fun w => True ∧ Fresh W (cs, T0) v w) := by
  refine ⟨and_stable (fun _ _ _ h => h) (fresh_stable _ _ _), fun w hw ⟨_, b, hv, hb, hc⟩ => ?_⟩
  subst hv
  have hr := run_store_row (P := P) hc hsz hT hone
  refine ⟨w.setRow b cs, ?_, (only_setRow w b cs).ext hw hb, trivial, b, rfl, hb, setRow_heap w b c0 cs T0 (0, 0) hc⟩
  simp only [execOp, ho, hx, hy]
  simp [hr, Result.andThen]
end Go.Proofs.Ytlifhoajamnehaa
