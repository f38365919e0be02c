/- Law MathB Vs Eql: contracts of functions, and lemmas, for this seat. Conditions: as each states. -/
import Derived.Test.YtlifhoajamnehaaPr01
import Derived.Laws.CopyRow
import Derived.Laws.Rows
import Derived.Test.YtlifhoajamnehaaPr02
import Derived.Laws.StructEq
import Derived.ChangeKeysEq
set_option linter.unusedVariables false
set_option linter.unusedSimpArgs false
set_option maxRecDepth 100000
set_option maxHeartbeats 1000000
namespace Go.Proofs.Ytlifhoajamnehaa
open Go Go.RowKit
/-- only block b has turned -/
structure Only (b : Nat) (w w' : World) : Prop where
  os : w'.os = w.os
  tape : w'.tape = w.tape
  output : w'.output = w.output
  size : w'.heap.size = w.heap.size
  block : ∀ k, k ≠ b → w'.heap[k]? = w.heap[k]?
theorem Only.ext {b : Nat} {W w w' : World} (h : Only b w w') (hx : Ext W w) (hb : W.heap.size ≤ b) : Ext W w' :=
  have k : Below W.heap.size W w := hx
  ⟨h.os.trans k.os, h.tape.trans k.tape, h.output.trans k.output, by rw [h.size]; exact k.size, fun i hi => (h.block i (by omega)).trans (k.block i hi)⟩
theorem only_setRow (w : World) (b : Nat) (cs : Array Value) : Only b w (w.setRow b cs) :=
  ⟨rfl, rfl, rfl, by simp, fun k hk => by simp only [World.setRow, Array.getElem?_modify]; rw [if_neg (fun h => hk h.symm)]⟩
theorem run_store_row {P : Program} {T : TypeId} {b : Nat} {cs c0 : Array Value} {T0 : TypeId} {w : World} (hcell : w.heap[b]? = some (.cells c0 T0)) (hsz : cs.size = c0.size) (hT : (P.info? T).map (·.size) = some cs.size) (hone : ∀ v ∈ cs.toList, v.oneCell' = true) :
    (Instr.storeAt T (.pointer (some ⟨b, 0, none⟩)) (.agg cs)).run P w = .ok () (w.setRow b cs) := by
  obtain ⟨i, hi, hs⟩ := Option.map_eq_some_iff.1 hT
  have h1 : (sizeOf T).run P w = .ok cs.size w := by simp [sizeOf, typeInfo, hi, hs, go_sem]
  have h2 := run_storeCells_at (P := P) b 0 T0 cs.toList 0 c0 w hcell (by simp; omega) hone
  have e : (c0.toList.take (0 + 0) ++ cs.toList ++ c0.toList.drop (0 + 0 + cs.toList.length)).toArray = cs := by
    have : c0.toList.drop (0 + 0 + cs.toList.length) = [] := List.drop_eq_nil_of_le (by simp; omega)
    rw [this]; simp
  rw [e] at h2
  simp [Instr.storeAt, Instr.sureAddr, storeVar, Value.cells, h1, h2, Sem.run_bind, Result.andThen]
theorem row_cell {w : World} {b : Nat} {cs : Array Value} {T : TypeId} (h : w.heap[b]? = some (.cells cs T)) (j : Nat) : w.cell? ⟨b, j, none⟩ = cs[j]? := cell_of_row w b j cs T (0, 0) h
theorem row_lt {w : World} {b : Nat} {o : Obj} (h : w.heap[b]? = some o) : b < w.heap.size := by
  rcases Nat.lt_or_ge b w.heap.size with h1 | h1
  · exact h1
  · rw [Array.getElem?_eq_none h1] at h; cases h
/-- the store of a value into a new block -/
theorem fill_store {P : Program} {W : World} {o : Oper} {a : Act} {T : TypeId} {x y : Operand} {v : Value} {cs c0 : Array Value} {T0 : TypeId} (ho : o.op = .store T x y)
    (hx : a.eval x = v) (hy : a.eval y = .agg cs) (hsz : cs.size = c0.size) (hT : (P.info? T).map (·.size) = some cs.size) (hone : ∀ v ∈ cs.toList, v.oneCell' = true) :
    Fill P W o a (fun w => True ∧ Fresh W (c0, T0) v w) (fun w => True ∧ Fresh W (cs, T0) v w) := by
  refine ⟨and_stable (fun _ _ _ h => h) (fresh_stable _ _ _), fun w hw ⟨_, b, hv, hb, hc⟩ => ?_⟩
  subst hv
  have hr := run_store_row (P := P) hc hsz hT hone
  refine ⟨w.setRow b cs, ?_, (only_setRow w b cs).ext hw hb, trivial, b, rfl, hb, setRow_heap w b c0 cs T0 (0, 0) hc⟩
  simp only [execOp, ho, hx, hy]
  simp [hr, Result.andThen]
end Go.Proofs.Ytlifhoajamnehaa
set_option linter.unusedVariables false
set_option linter.unusedSimpArgs false
set_option maxRecDepth 100000
set_option maxHeartbeats 1000000
namespace Go.Proofs.Ytlifhoajamnehaa
/-! orders of vectors, choices, kept sets -/
/-- the first k rows are new -/
def mixG (g h : Nat → Int) (k j : Nat) : Int := if j < k then g j else h j
theorem mixG_at (g h : Nat → Int) (k : Nat) : mixG g h k k = h k := if_neg (Nat.lt_irrefl k)
theorem mixG_0 (g h : Nat → Int) (j : Nat) : h j = mixG g h 0 j := (if_neg (Nat.not_lt_zero j)).symm
theorem mixG_step (g h : Nat → Int) (k j : Nat) (v : Int) (hv : v = g k) : (if j = k then v else mixG g h k j) = mixG g h (k + 1) j := by
  unfold mixG
  by_cases e : j = k
  · rw [if_pos e, if_pos (by omega), e]; exact hv
  · rw [if_neg e]
    by_cases h1 : j < k
    · rw [if_pos h1, if_pos (by omega)]
    · rw [if_neg h1, if_neg (by omega)]
theorem mixG_6 (g h : Nat → Int) (j : Nat) (hj : j < 6) : mixG g h 6 j = g j := if_pos hj
end Go.Proofs.Ytlifhoajamnehaa
set_option linter.unusedVariables false
set_option linter.unusedSimpArgs false
set_option maxRecDepth 100000
set_option maxHeartbeats 1000000
namespace Go.Proofs.Ytlifhoajamnehaa
open Go Go.RowKit
/-- is a sheet valid? -/
def vs (r : Nat → Int) : Bool := inR (r 0) 0 63 && inR (r 1) 0 63 && inR (r 2) 0 63 && inR (r 3) 0 63 && inR (r 4) 0 63 && inR (r 5) 0 63
theorem vs_iff (r : Nat → Int) : vs r = true ↔ okR r := by
  unfold vs okR
  simp only [Bool.and_eq_true, inR_iff]
  constructor
  · rintro ⟨⟨⟨⟨⟨h0, h1⟩, h2⟩, h3⟩, h4⟩, h5⟩ k hk
    match k, hk with
    | 0, _ => exact h0
    | 1, _ => exact h1
    | 2, _ => exact h2
    | 3, _ => exact h3
    | 4, _ => exact h4
    | 5, _ => exact h5
  · intro h
    exact ⟨⟨⟨⟨⟨h 0 (by omega), h 1 (by omega)⟩, h 2 (by omega)⟩, h 3 (by omega)⟩, h 4 (by omega)⟩, h 5 (by omega)⟩
theorem vs_bad {r : Nat → Int} (h : vs r = false) : ¬ okR r := fun hr => by rw [(vs_iff r).2 hr] at h; cases h
theorem vs_rw (n : Nat) : vs (rw n) = true := (vs_iff _).2 fun k _ => ⟨rw_0 n k, rw_63 n k⟩
theorem vs_set {r : Nat → Int} (h : vs r = true) : ∃ n, n < 68719476736 ∧ ∀ k, k < 6 → r k = rw n k := okR_set ((vs_iff r).1 h)
/-- the set of a sheet, if it is valid -/
noncomputable def setN (r : Nat → Int) : Nat := if h : vs r = true then (vs_set h).choose else 0
theorem setN_lt (r : Nat → Int) : setN r < 68719476736 := by
  unfold setN
  split
  · rename_i h; exact (vs_set h).choose_spec.1
  · omega
theorem setN_bad {r : Nat → Int} (h : ¬ okR r) : setN r = 0 := by unfold setN; rw [dif_neg (fun hv => h ((vs_iff r).1 hv))]
theorem setN_row {r : Nat → Int} (h : okR r) : ∀ k, k < 6 → r k = rw (setN r) k := by
  unfold setN; rw [dif_pos ((vs_iff r).2 h)]; exact (vs_set ((vs_iff r).2 h)).choose_spec.2
theorem l2Sheet_is (r : Nat → Int) (b : Bool) (h : vs r = b) (w : World) : Calls Try.prog 75 #[(.agg #[.int .i64 (r 0), .int .i64 (r 1), .int .i64 (r 2), .int .i64 (r 3), .int .i64 (r 4), .int .i64 (r 5)])] w fun e w' => e = .returned (.bool b) ∧ Ext w w' := by
  cases b
  · exact l2Sheet_bad r (vs_bad h) w
  · obtain ⟨n, hn, hs⟩ := vs_set h
    rw [hs 0 (by omega), hs 1 (by omega), hs 2 (by omega), hs 3 (by omega), hs 4 (by omega), hs 5 (by omega)]
    exact l2Sheet_n n w
theorem setOf_is (r : Nat → Int) (b : Bool) (h : vs r = b) (w : World) : Calls Try.prog 77 #[(.agg #[.int .i64 (r 0), .int .i64 (r 1), .int .i64 (r 2), .int .i64 (r 3), .int .i64 (r 4), .int .i64 (r 5)])] w fun e w' => e = .returned (.tuple #[.int .u64 (setN r : Int), .bool b]) ∧ Ext w w' := by
  cases b
  · rw [setN_bad (vs_bad h)]; exact setOf_bad r (vs_bad h) w
  · have hs := setN_row ((vs_iff r).1 h)
    have hl := setN_lt r
    generalize setN r = n at *
    rw [hs 0 (by omega), hs 1 (by omega), hs 2 (by omega), hs 3 (by omega), hs 4 (by omega), hs 5 (by omega)]
    exact setOf_n n hl w
theorem twoSets_is (r s : Nat → Int) (b1 b2 : Bool) (h1 : vs r = b1) (h2 : vs s = b2) (w : World) : Calls Try.prog 84 #[(.agg #[.int .i64 (r 0), .int .i64 (r 1), .int .i64 (r 2), .int .i64 (r 3), .int .i64 (r 4), .int .i64 (r 5)]), (.agg #[.int .i64 (s 0), .int .i64 (s 1), .int .i64 (s 2), .int .i64 (s 3), .int .i64 (s 4), .int .i64 (s 5)])] w fun e w' => e = .returned (.tuple #[.int .u64 (setN r : Int), .int .u64 (setN s : Int), .bool (b1 && b2)]) ∧ Ext w w' := by
  have H1 := Lib.hid h1
  have H2 := Lib.hid h2
  clear h1 h2
  skip
  cases b1 <;> cases b2
  all_goals
    go_enter Try.func84, Try.ntmps84
    have tk0 := Lib.hid True.intro
    go_wp2_with (first | (clear tk0; (go_at_call 77; refine (setOf_is r _ H1.out _).mono ?_; rintro e w1 ⟨rfl, hE⟩; replace k0_0 : w1.cell? ⟨w.heap.size, 0, none⟩ = some (.int .i64 (r 0)) := (hE.cells _ _ (by first | exact l0 | (simp; done) | (simp; omega))).trans (by first | exact k0_0 | (go_simp; done)); replace k0_1 : w1.cell? ⟨w.heap.size, 1, none⟩ = some (.int .i64 (r 1)) := (hE.cells _ _ (by first | exact l0 | (simp; done) | (simp; omega))).trans (by first | exact k0_1 | (go_simp; done)); replace k0_2 : w1.cell? ⟨w.heap.size, 2, none⟩ = some (.int .i64 (r 2)) := (hE.cells _ _ (by first | exact l0 | (simp; done) | (simp; omega))).trans (by first | exact k0_2 | (go_simp; done)); replace k0_3 : w1.cell? ⟨w.heap.size, 3, none⟩ = some (.int .i64 (r 3)) := (hE.cells _ _ (by first | exact l0 | (simp; done) | (simp; omega))).trans (by first | exact k0_3 | (go_simp; done)); replace k0_4 : w1.cell? ⟨w.heap.size, 4, none⟩ = some (.int .i64 (r 4)) := (hE.cells _ _ (by first | exact l0 | (simp; done) | (simp; omega))).trans (by first | exact k0_4 | (go_simp; done)); replace k0_5 : w1.cell? ⟨w.heap.size, 5, none⟩ = some (.int .i64 (r 5)) := (hE.cells _ _ (by first | exact l0 | (simp; done) | (simp; omega))).trans (by first | exact k0_5 | (go_simp; done)); replace k1_0 : w1.cell? ⟨w.heap.size + 1, 0, none⟩ = some (.int .i64 (s 0)) := (hE.cells _ _ (by first | exact l1 | (simp; done) | (simp; omega))).trans (by first | exact k1_0 | (go_simp; done)); replace k1_1 : w1.cell? ⟨w.heap.size + 1, 1, none⟩ = some (.int .i64 (s 1)) := (hE.cells _ _ (by first | exact l1 | (simp; done) | (simp; omega))).trans (by first | exact k1_1 | (go_simp; done)); replace k1_2 : w1.cell? ⟨w.heap.size + 1, 2, none⟩ = some (.int .i64 (s 2)) := (hE.cells _ _ (by first | exact l1 | (simp; done) | (simp; omega))).trans (by first | exact k1_2 | (go_simp; done)); replace k1_3 : w1.cell? ⟨w.heap.size + 1, 3, none⟩ = some (.int .i64 (s 3)) := (hE.cells _ _ (by first | exact l1 | (simp; done) | (simp; omega))).trans (by first | exact k1_3 | (go_simp; done)); replace k1_4 : w1.cell? ⟨w.heap.size + 1, 4, none⟩ = some (.int .i64 (s 4)) := (hE.cells _ _ (by first | exact l1 | (simp; done) | (simp; omega))).trans (by first | exact k1_4 | (go_simp; done)); replace k1_5 : w1.cell? ⟨w.heap.size + 1, 5, none⟩ = some (.int .i64 (s 5)) := (hE.cells _ _ (by first | exact l1 | (simp; done) | (simp; omega))).trans (by first | exact k1_5 | (go_simp; done)); replace l0 : w.heap.size < w1.heap.size := Nat.lt_of_lt_of_le (by first | exact l0 | (simp; done) | (simp; omega)) hE.size; replace l1 : w.heap.size + 1 < w1.heap.size := Nat.lt_of_lt_of_le (by first | exact l1 | (simp; done) | (simp; omega)) hE.size)) | (go_at_call 77; refine (setOf_is s _ H2.out _).mono ?_; rintro e w1 ⟨rfl, hE⟩; replace k0_0 : w1.cell? ⟨w.heap.size, 0, none⟩ = some (.int .i64 (r 0)) := (hE.cells _ _ (by first | exact l0 | (simp; done) | (simp; omega))).trans (by first | exact k0_0 | (go_simp; done)); replace k0_1 : w1.cell? ⟨w.heap.size, 1, none⟩ = some (.int .i64 (r 1)) := (hE.cells _ _ (by first | exact l0 | (simp; done) | (simp; omega))).trans (by first | exact k0_1 | (go_simp; done)); replace k0_2 : w1.cell? ⟨w.heap.size, 2, none⟩ = some (.int .i64 (r 2)) := (hE.cells _ _ (by first | exact l0 | (simp; done) | (simp; omega))).trans (by first | exact k0_2 | (go_simp; done)); replace k0_3 : w1.cell? ⟨w.heap.size, 3, none⟩ = some (.int .i64 (r 3)) := (hE.cells _ _ (by first | exact l0 | (simp; done) | (simp; omega))).trans (by first | exact k0_3 | (go_simp; done)); replace k0_4 : w1.cell? ⟨w.heap.size, 4, none⟩ = some (.int .i64 (r 4)) := (hE.cells _ _ (by first | exact l0 | (simp; done) | (simp; omega))).trans (by first | exact k0_4 | (go_simp; done)); replace k0_5 : w1.cell? ⟨w.heap.size, 5, none⟩ = some (.int .i64 (r 5)) := (hE.cells _ _ (by first | exact l0 | (simp; done) | (simp; omega))).trans (by first | exact k0_5 | (go_simp; done)); replace k1_0 : w1.cell? ⟨w.heap.size + 1, 0, none⟩ = some (.int .i64 (s 0)) := (hE.cells _ _ (by first | exact l1 | (simp; done) | (simp; omega))).trans (by first | exact k1_0 | (go_simp; done)); replace k1_1 : w1.cell? ⟨w.heap.size + 1, 1, none⟩ = some (.int .i64 (s 1)) := (hE.cells _ _ (by first | exact l1 | (simp; done) | (simp; omega))).trans (by first | exact k1_1 | (go_simp; done)); replace k1_2 : w1.cell? ⟨w.heap.size + 1, 2, none⟩ = some (.int .i64 (s 2)) := (hE.cells _ _ (by first | exact l1 | (simp; done) | (simp; omega))).trans (by first | exact k1_2 | (go_simp; done)); replace k1_3 : w1.cell? ⟨w.heap.size + 1, 3, none⟩ = some (.int .i64 (s 3)) := (hE.cells _ _ (by first | exact l1 | (simp; done) | (simp; omega))).trans (by first | exact k1_3 | (go_simp; done)); replace k1_4 : w1.cell? ⟨w.heap.size + 1, 4, none⟩ = some (.int .i64 (s 4)) := (hE.cells _ _ (by first | exact l1 | (simp; done) | (simp; omega))).trans (by first | exact k1_4 | (go_simp; done)); replace k1_5 : w1.cell? ⟨w.heap.size + 1, 5, none⟩ = some (.int .i64 (s 5)) := (hE.cells _ _ (by first | exact l1 | (simp; done) | (simp; omega))).trans (by first | exact k1_5 | (go_simp; done)); replace l0 : w.heap.size < w1.heap.size := Nat.lt_of_lt_of_le (by first | exact l0 | (simp; done) | (simp; omega)) hE.size; replace l1 : w.heap.size + 1 < w1.heap.size := Nat.lt_of_lt_of_le (by first | exact l1 | (simp; done) | (simp; omega)) hE.size))
    go_returns
    exact ⟨rfl, (by (repeat' (first | (with_reducible exact Ext.refl _) | (with_reducible assumption) | (with_reducible refine Ext.alloc ?_ _) | (with_reducible refine Ext.drew ?_) | (with_reducible refine Ext.drewN ?_ _) | (with_reducible refine Ext.setCell ?_ ?_ _) | (with_reducible refine Ext.trans ?_ (by assumption)))) <;> (first | (with_reducible assumption) | omega | (simp; done) | (simp; omega)))⟩
theorem twoSets_n (a b : Nat) (ha : a < 68719476736) (hb : b < 68719476736) (w : World) : Calls Try.prog 84 #[(.agg #[.int .i64 (rw a 0), .int .i64 (rw a 1), .int .i64 (rw a 2), .int .i64 (rw a 3), .int .i64 (rw a 4), .int .i64 (rw a 5)]), (.agg #[.int .i64 (rw b 0), .int .i64 (rw b 1), .int .i64 (rw b 2), .int .i64 (rw b 3), .int .i64 (rw b 4), .int .i64 (rw b 5)])] w fun e w' => e = .returned (.tuple #[.int .u64 (a : Int), .int .u64 (b : Int), .bool true]) ∧ Ext w w' := by
  skip
  go_enter Try.func84, Try.ntmps84
  have tk0 := Lib.hid True.intro
  go_wp2_with (first | (clear tk0; (go_at_call 77; refine (setOf_n a ha _).mono ?_; rintro e w1 ⟨rfl, hE⟩; replace k0_0 : w1.cell? ⟨w.heap.size, 0, none⟩ = some (.int .i64 (rw a 0)) := (hE.cells _ _ (by first | exact l0 | (simp; done) | (simp; omega))).trans (by first | exact k0_0 | (go_simp; done)); replace k0_1 : w1.cell? ⟨w.heap.size, 1, none⟩ = some (.int .i64 (rw a 1)) := (hE.cells _ _ (by first | exact l0 | (simp; done) | (simp; omega))).trans (by first | exact k0_1 | (go_simp; done)); replace k0_2 : w1.cell? ⟨w.heap.size, 2, none⟩ = some (.int .i64 (rw a 2)) := (hE.cells _ _ (by first | exact l0 | (simp; done) | (simp; omega))).trans (by first | exact k0_2 | (go_simp; done)); replace k0_3 : w1.cell? ⟨w.heap.size, 3, none⟩ = some (.int .i64 (rw a 3)) := (hE.cells _ _ (by first | exact l0 | (simp; done) | (simp; omega))).trans (by first | exact k0_3 | (go_simp; done)); replace k0_4 : w1.cell? ⟨w.heap.size, 4, none⟩ = some (.int .i64 (rw a 4)) := (hE.cells _ _ (by first | exact l0 | (simp; done) | (simp; omega))).trans (by first | exact k0_4 | (go_simp; done)); replace k0_5 : w1.cell? ⟨w.heap.size, 5, none⟩ = some (.int .i64 (rw a 5)) := (hE.cells _ _ (by first | exact l0 | (simp; done) | (simp; omega))).trans (by first | exact k0_5 | (go_simp; done)); replace k1_0 : w1.cell? ⟨w.heap.size + 1, 0, none⟩ = some (.int .i64 (rw b 0)) := (hE.cells _ _ (by first | exact l1 | (simp; done) | (simp; omega))).trans (by first | exact k1_0 | (go_simp; done)); replace k1_1 : w1.cell? ⟨w.heap.size + 1, 1, none⟩ = some (.int .i64 (rw b 1)) := (hE.cells _ _ (by first | exact l1 | (simp; done) | (simp; omega))).trans (by first | exact k1_1 | (go_simp; done)); replace k1_2 : w1.cell? ⟨w.heap.size + 1, 2, none⟩ = some (.int .i64 (rw b 2)) := (hE.cells _ _ (by first | exact l1 | (simp; done) | (simp; omega))).trans (by first | exact k1_2 | (go_simp; done)); replace k1_3 : w1.cell? ⟨w.heap.size + 1, 3, none⟩ = some (.int .i64 (rw b 3)) := (hE.cells _ _ (by first | exact l1 | (simp; done) | (simp; omega))).trans (by first | exact k1_3 | (go_simp; done)); replace k1_4 : w1.cell? ⟨w.heap.size + 1, 4, none⟩ = some (.int .i64 (rw b 4)) := (hE.cells _ _ (by first | exact l1 | (simp; done) | (simp; omega))).trans (by first | exact k1_4 | (go_simp; done)); replace k1_5 : w1.cell? ⟨w.heap.size + 1, 5, none⟩ = some (.int .i64 (rw b 5)) := (hE.cells _ _ (by first | exact l1 | (simp; done) | (simp; omega))).trans (by first | exact k1_5 | (go_simp; done)); replace l0 : w.heap.size < w1.heap.size := Nat.lt_of_lt_of_le (by first | exact l0 | (simp; done) | (simp; omega)) hE.size; replace l1 : w.heap.size + 1 < w1.heap.size := Nat.lt_of_lt_of_le (by first | exact l1 | (simp; done) | (simp; omega)) hE.size)) | (go_at_call 77; refine (setOf_n b hb _).mono ?_; rintro e w1 ⟨rfl, hE⟩; replace k0_0 : w1.cell? ⟨w.heap.size, 0, none⟩ = some (.int .i64 (rw a 0)) := (hE.cells _ _ (by first | exact l0 | (simp; done) | (simp; omega))).trans (by first | exact k0_0 | (go_simp; done)); replace k0_1 : w1.cell? ⟨w.heap.size, 1, none⟩ = some (.int .i64 (rw a 1)) := (hE.cells _ _ (by first | exact l0 | (simp; done) | (simp; omega))).trans (by first | exact k0_1 | (go_simp; done)); replace k0_2 : w1.cell? ⟨w.heap.size, 2, none⟩ = some (.int .i64 (rw a 2)) := (hE.cells _ _ (by first | exact l0 | (simp; done) | (simp; omega))).trans (by first | exact k0_2 | (go_simp; done)); replace k0_3 : w1.cell? ⟨w.heap.size, 3, none⟩ = some (.int .i64 (rw a 3)) := (hE.cells _ _ (by first | exact l0 | (simp; done) | (simp; omega))).trans (by first | exact k0_3 | (go_simp; done)); replace k0_4 : w1.cell? ⟨w.heap.size, 4, none⟩ = some (.int .i64 (rw a 4)) := (hE.cells _ _ (by first | exact l0 | (simp; done) | (simp; omega))).trans (by first | exact k0_4 | (go_simp; done)); replace k0_5 : w1.cell? ⟨w.heap.size, 5, none⟩ = some (.int .i64 (rw a 5)) := (hE.cells _ _ (by first | exact l0 | (simp; done) | (simp; omega))).trans (by first | exact k0_5 | (go_simp; done)); replace k1_0 : w1.cell? ⟨w.heap.size + 1, 0, none⟩ = some (.int .i64 (rw b 0)) := (hE.cells _ _ (by first | exact l1 | (simp; done) | (simp; omega))).trans (by first | exact k1_0 | (go_simp; done)); replace k1_1 : w1.cell? ⟨w.heap.size + 1, 1, none⟩ = some (.int .i64 (rw b 1)) := (hE.cells _ _ (by first | exact l1 | (simp; done) | (simp; omega))).trans (by first | exact k1_1 | (go_simp; done)); replace k1_2 : w1.cell? ⟨w.heap.size + 1, 2, none⟩ = some (.int .i64 (rw b 2)) := (hE.cells _ _ (by first | exact l1 | (simp; done) | (simp; omega))).trans (by first | exact k1_2 | (go_simp; done)); replace k1_3 : w1.cell? ⟨w.heap.size + 1, 3, none⟩ = some (.int .i64 (rw b 3)) := (hE.cells _ _ (by first | exact l1 | (simp; done) | (simp; omega))).trans (by first | exact k1_3 | (go_simp; done)); replace k1_4 : w1.cell? ⟨w.heap.size + 1, 4, none⟩ = some (.int .i64 (rw b 4)) := (hE.cells _ _ (by first | exact l1 | (simp; done) | (simp; omega))).trans (by first | exact k1_4 | (go_simp; done)); replace k1_5 : w1.cell? ⟨w.heap.size + 1, 5, none⟩ = some (.int .i64 (rw b 5)) := (hE.cells _ _ (by first | exact l1 | (simp; done) | (simp; omega))).trans (by first | exact k1_5 | (go_simp; done)); replace l0 : w.heap.size < w1.heap.size := Nat.lt_of_lt_of_le (by first | exact l0 | (simp; done) | (simp; omega)) hE.size; replace l1 : w.heap.size + 1 < w1.heap.size := Nat.lt_of_lt_of_le (by first | exact l1 | (simp; done) | (simp; omega)) hE.size))
  go_returns
  exact ⟨rfl, (by (repeat' (first | (with_reducible exact Ext.refl _) | (with_reducible assumption) | (with_reducible refine Ext.alloc ?_ _) | (with_reducible refine Ext.drew ?_) | (with_reducible refine Ext.drewN ?_ _) | (with_reducible refine Ext.setCell ?_ ?_ _) | (with_reducible refine Ext.trans ?_ (by assumption)))) <;> (first | (with_reducible assumption) | omega | (simp; done) | (simp; omega)))⟩
end Go.Proofs.Ytlifhoajamnehaa
set_option linter.unusedVariables false
set_option linter.unusedSimpArgs false
set_option maxRecDepth 100000
set_option maxHeartbeats 1000000
namespace Go.Proofs.Ytlifhoajamnehaa
open Go Go.RowKit Instr
def eqS (r s : Nat → Int) : Bool := r 0 == s 0 && (r 1 == s 1 && (r 2 == s 2 && (r 3 == s 3 && (r 4 == s 4 && r 5 == s 5))))
theorem eqS_same (r : Nat → Int) : eqS r r = true := by unfold eqS; simp
theorem eqS_rw {a b : Nat} (ha : a < 68719476736) (hb : b < 68719476736) : eqS (rw a) (rw b) = decide (a = b) := by
  by_cases h : a = b
  · subst h; rw [eqS_same, decide_eq_true rfl]
  · rw [decide_eq_false h, ← Bool.not_eq_true]
    intro he
    unfold eqS at he
    simp only [Bool.and_eq_true, beq_iff_eq] at he
    obtain ⟨h0, h1, h2, h3, h4, h5⟩ := he
    refine h (eq_of_rows ha hb fun y hy => ?_)
    have key : rw a y = rw b y := by
      match y, hy with
      | 0, _ => exact h0
      | 1, _ => exact h1
      | 2, _ => exact h2
      | 3, _ => exact h3
      | 4, _ => exact h4
      | 5, _ => exact h5
    rw [rw_nat, rw_nat] at key
    omega
theorem part_a6 (r : Nat → Int) (w : World) : (part 24 #[.int .i64 (r 0), .int .i64 (r 1), .int .i64 (r 2), .int .i64 (r 3), .int .i64 (r 4), .int .i64 (r 5)] 0).run Try.prog w = .ok (.agg #[.int .i64 (r 0), .int .i64 (r 1), .int .i64 (r 2), .int .i64 (r 3), .int .i64 (r 4), .int .i64 (r 5)]) w := by kernel_rfl
theorem part_at (r : Nat → Int) (k : Nat) (hk : k < 6) (w : World) : (part 3 #[.int .i64 (r 0), .int .i64 (r 1), .int .i64 (r 2), .int .i64 (r 3), .int .i64 (r 4), .int .i64 (r 5)] (k * 1)).run Try.prog w = .ok (.int .i64 (r k)) w := by
  match k, hk with
  | 0, _ => exact (by kernel_rfl : (part 3 #[.int .i64 (r 0), .int .i64 (r 1), .int .i64 (r 2), .int .i64 (r 3), .int .i64 (r 4), .int .i64 (r 5)] (0 * 1)).run Try.prog w = .ok (.int .i64 (r 0)) w)
  | 1, _ => exact (by kernel_rfl : (part 3 #[.int .i64 (r 0), .int .i64 (r 1), .int .i64 (r 2), .int .i64 (r 3), .int .i64 (r 4), .int .i64 (r 5)] (1 * 1)).run Try.prog w = .ok (.int .i64 (r 1)) w)
  | 2, _ => exact (by kernel_rfl : (part 3 #[.int .i64 (r 0), .int .i64 (r 1), .int .i64 (r 2), .int .i64 (r 3), .int .i64 (r 4), .int .i64 (r 5)] (2 * 1)).run Try.prog w = .ok (.int .i64 (r 2)) w)
  | 3, _ => exact (by kernel_rfl : (part 3 #[.int .i64 (r 0), .int .i64 (r 1), .int .i64 (r 2), .int .i64 (r 3), .int .i64 (r 4), .int .i64 (r 5)] (3 * 1)).run Try.prog w = .ok (.int .i64 (r 3)) w)
  | 4, _ => exact (by kernel_rfl : (part 3 #[.int .i64 (r 0), .int .i64 (r 1), .int .i64 (r 2), .int .i64 (r 3), .int .i64 (r 4), .int .i64 (r 5)] (4 * 1)).run Try.prog w = .ok (.int .i64 (r 4)) w)
  | 5, _ => exact (by kernel_rfl : (part 3 #[.int .i64 (r 0), .int .i64 (r 1), .int .i64 (r 2), .int .i64 (r 3), .int .i64 (r 4), .int .i64 (r 5)] (5 * 1)).run Try.prog w = .ok (.int .i64 (r 5)) w)
theorem items_eq (r s : Nat → Int) (w : World) : ∀ l : List Nat, (∀ k ∈ l, k < 6) → (Op.eqItems 9998 3 1 #[.int .i64 (r 0), .int .i64 (r 1), .int .i64 (r 2), .int .i64 (r 3), .int .i64 (r 4), .int .i64 (r 5)] #[.int .i64 (s 0), .int .i64 (s 1), .int .i64 (s 2), .int .i64 (s 3), .int .i64 (s 4), .int .i64 (s 5)] l).run Try.prog w = .ok (l.all fun k => r k == s k) w
  | [], _ => rfl
  | k :: l, h => by
    rw [Op.eqItems]
    simp only [Sem.run_bind, part_at r k (h k (List.mem_cons_self ..)) w, part_at s k (h k (List.mem_cons_self ..)) w, Result.andThen_ok]
    rw [run_equalIn_int w 9997 3 .i64 .i64 (r k) (s k) Try.underlying3]
    simp only [Result.andThen_ok, List.all_cons]
    cases (r k == s k)
    · simp
    · simpa using items_eq r s w l fun j hj => h j (List.mem_cons_of_mem _ hj)
theorem eql_run (r s : Nat → Int) (w : World) : (Op.equalIn 10000 26 (.agg #[.int .i64 (r 0), .int .i64 (r 1), .int .i64 (r 2), .int .i64 (r 3), .int .i64 (r 4), .int .i64 (r 5)]) (.agg #[.int .i64 (s 0), .int .i64 (s 1), .int .i64 (s 2), .int .i64 (s 3), .int .i64 (s 4), .int .i64 (s 5)])).run Try.prog w = .ok (eqS r s) w := by
  rw [run_equalIn_struct w 9999 26 _ _ (by kernel_rfl) (by kernel_rfl)]
  have e : (Try.prog.fieldsOf 26).toList = [⟨"Rows", 24, 0, false, "", "", 0⟩] := by kernel_rfl
  rw [e, Op.eqFields, if_pos (by decide)]
  simp only [Sem.run_bind, part_a6, Result.andThen_ok]
  rw [run_equalIn_array w 9998 _ _ Try.underlying24 (i := (Try.prog.info? 3).getD default) (by kernel_rfl), show Try.prog.cellsOf 3 = 1 by kernel_rfl, items_eq r s w _ (by simp)]
  have h : ((List.range 6).all fun k => r k == s k) = eqS r s := by
    unfold eqS
    simp [List.range_succ]
  rw [h]
  simp only [Result.andThen_ok]
  cases eqS r s <;> simp [Op.eqFields]
theorem eql_is (r s : Nat → Int) (b : Bool) (h : eqS r s = b) : ∀ w, (binOp .eql 26 (.agg #[.int .i64 (r 0), .int .i64 (r 1), .int .i64 (r 2), .int .i64 (r 3), .int .i64 (r 4), .int .i64 (r 5)]) (.agg #[.int .i64 (s 0), .int .i64 (s 1), .int .i64 (s 2), .int .i64 (s 3), .int .i64 (s 4), .int .i64 (s 5)])).run Try.prog w = .ok (.bool b) w := fun w => by
  rw [run_eql_struct, eql_run, h]; rfl
theorem neq_is (r s : Nat → Int) (b : Bool) (h : (!eqS r s) = b) : ∀ w, (binOp .neq 26 (.agg #[.int .i64 (r 0), .int .i64 (r 1), .int .i64 (r 2), .int .i64 (r 3), .int .i64 (r 4), .int .i64 (r 5)]) (.agg #[.int .i64 (s 0), .int .i64 (s 1), .int .i64 (s 2), .int .i64 (s 3), .int .i64 (s 4), .int .i64 (s 5)])).run Try.prog w = .ok (.bool b) w := fun w => by
  rw [run_neq_struct, eql_run, ← h]; rfl
theorem eql_same (n : Nat) : ∀ w, (binOp .eql 26 (.agg #[.int .i64 (rw n 0), .int .i64 (rw n 1), .int .i64 (rw n 2), .int .i64 (rw n 3), .int .i64 (rw n 4), .int .i64 (rw n 5)]) (.agg #[.int .i64 (rw n 0), .int .i64 (rw n 1), .int .i64 (rw n 2), .int .i64 (rw n 3), .int .i64 (rw n 4), .int .i64 (rw n 5)])).run Try.prog w = .ok (.bool true) w := eql_is _ _ _ (eqS_same _)
theorem eql_ne {a b : Nat} (ha : a < 68719476736) (hb : b < 68719476736) (h : a ≠ b) : ∀ w, (binOp .eql 26 (.agg #[.int .i64 (rw a 0), .int .i64 (rw a 1), .int .i64 (rw a 2), .int .i64 (rw a 3), .int .i64 (rw a 4), .int .i64 (rw a 5)]) (.agg #[.int .i64 (rw b 0), .int .i64 (rw b 1), .int .i64 (rw b 2), .int .i64 (rw b 3), .int .i64 (rw b 4), .int .i64 (rw b 5)])).run Try.prog w = .ok (.bool false) w := eql_is _ _ _ (by rw [eqS_rw ha hb]; exact decide_eq_false h)
end Go.Proofs.Ytlifhoajamnehaa
