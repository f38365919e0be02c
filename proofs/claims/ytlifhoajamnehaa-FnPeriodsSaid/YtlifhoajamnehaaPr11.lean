/- FCl Slants Slant Big: contracts of functions, and lemmas, for this seat. Conditions: as each states. -/
import Derived.Test.YtlifhoajamnehaaPr07
import Derived.Test.YtlifhoajamnehaaPr10
import Derived.Test.YtlifhoajamnehaaPr04
import Derived.Test.YtlifhoajamnehaaPr03
set_option linter.unusedVariables false
set_option linter.unusedSimpArgs false
set_option maxRecDepth 100000
set_option maxHeartbeats 1000000
namespace Go.Proofs.Ytlifhoajamnehaa
open Go Go.RowKit Instr
/-- a call with one answer, in every world, that only adds to the heap -/
def Cl (f : FuncId) (args : Array Value) (v : Value) : Prop := ∀ w, Calls Try.prog f args w fun e w' => e = .returned v ∧ Ext w w'
theorem vs2_l {r s : Nat → Int} (h : vs r = false) : (vs r && vs s) = false := by rw [h]; rfl
theorem vs2_r {r s : Nat → Int} (h : vs s = false) : (vs r && vs s) = false := by rw [h, Bool.and_false]
end Go.Proofs.Ytlifhoajamnehaa
set_option linter.unusedVariables false
set_option linter.unusedSimpArgs false
set_option maxRecDepth 100000
set_option maxHeartbeats 1000000
namespace Go.Proofs.Ytlifhoajamnehaa
open Go Go.RowKit Instr
end Go.Proofs.Ytlifhoajamnehaa
set_option linter.unusedVariables false
set_option linter.unusedSimpArgs false
set_option maxRecDepth 100000
set_option maxHeartbeats 1000000
namespace Go.Proofs.Ytlifhoajamnehaa
open Go Go.RowKit
end Go.Proofs.Ytlifhoajamnehaa
set_option linter.unusedVariables false
set_option linter.unusedSimpArgs false
set_option maxRecDepth 100000
set_option maxHeartbeats 1000000
namespace Go.Proofs.Ytlifhoajamnehaa
open Go Go.RowKit
/-! arrays of many numbers: a block, by what it holds -/
def av (N : Nat) (g : Nat → Int) : Array Value := ((List.range N).map fun i => Value.int .i64 (g i)).toArray
theorem av_size (N : Nat) (g : Nat → Int) : (av N g).size = N := by unfold av; simp
theorem av_get {N : Nat} {g : Nat → Int} {j : Nat} (h : j < N) : (av N g)[j]? = some (.int .i64 (g j)) := by unfold av; simp [h]
theorem av_congr {N : Nat} {g h : Nat → Int} (e : ∀ i, i < N → g i = h i) : av N g = av N h := by
  unfold av
  refine congrArg List.toArray (List.map_congr_left fun i hi => ?_)
  rw [e i (List.mem_range.1 hi)]
theorem av_set (N : Nat) (g : Nat → Int) (j : Nat) (v : Int) : (av N g).setIfInBounds j (.int .i64 v) = av N (fun i => if i = j then v else g i) := by
  refine Array.ext_getElem? fun i => ?_
  rw [Array.getElem?_setIfInBounds, av_size]
  by_cases h : i < N
  · rw [av_get h, av_get h]
    by_cases e : j = i
    · subst e; simp [h]
    · rw [if_neg e, if_neg (Ne.symm e)]
  · rw [Array.getElem?_eq_none (by rw [av_size]; omega), Array.getElem?_eq_none (by rw [av_size]; omega)]
    by_cases e : j = i
    · subst e; simp [h]
    · rw [if_neg e]
def Big (w : World) (b : Nat) (T : TypeId) (N : Nat) (g : Nat → Int) : Prop := w.heap[b]? = some (.cells (av N g) T (0, 0))
theorem Big.lt {w : World} {b : Nat} {T : TypeId} {N : Nat} {g : Nat → Int} (h : Big w b T N g) : b < w.heap.size := row_lt h
theorem Big.ext {w w' : World} {b : Nat} {T : TypeId} {N : Nat} {g : Nat → Int} (h : Big w b T N g) (hx : Ext w w') : Big w' b T N g := (hx.at h.lt).trans h
theorem Big.cell {w : World} {b : Nat} {T : TypeId} {N : Nat} {g : Nat → Int} (h : Big w b T N g) {j : Nat} (hj : j < N) : w.cell? ⟨b, j, none⟩ = some (.int .i64 (g j)) := (cell_of_row w b j _ T _ h).trans (av_get hj)
theorem Big.free {w : World} {b : Nat} {T : TypeId} {N : Nat} {g : Nat → Int} (h : Big w b T N g) (j : Nat) : w.frozen? ⟨b, j, none⟩ = false := frozen_of_row w b j _ T h
theorem Big.far {w : World} {b : Nat} {T : TypeId} {N : Nat} {g : Nat → Int} (h : Big w b T N g) {p : Addr} (hp : b ≠ p.block) (v : Value) : Big (w.setCell p v) b T N g := (heap_setCell_other w p b v hp).trans h
theorem Big.set {w : World} {b : Nat} {T : TypeId} {N : Nat} {g : Nat → Int} (h : Big w b T N g) (j : Nat) (v : Int) : Big (w.setCell ⟨b, j, none⟩ (.int .i64 v)) b T N (fun i => if i = j then v else g i) := by
  have := heap_setCell_same w b j _ T (.int .i64 v) h
  rw [av_set] at this
  exact this
theorem Big.congr {w : World} {b : Nat} {T : TypeId} {N : Nat} {g k : Nat → Int} (h : Big w b T N g) (e : ∀ i, i < N → g i = k i) : Big w b T N k := by unfold Big at *; rw [h, av_congr e]
theorem Big.only {w w' : World} {b c : Nat} {T : TypeId} {N : Nat} {g : Nat → Int} (h : Big w b T N g) (o : Only c w w') (hc : b ≠ c) : Big w' b T N g := (o.block b hc).trans h
theorem Arr.only {w w' : World} {b c : Nat} {g : Nat → Int} (h : Arr w b g) (o : Only c w w') (hc : b ≠ c) : Arr w' b g := fun j hj =>
  ⟨(World.cell?_of_block (w := w) (a := ⟨b, j, none⟩) (o.block b hc)).trans (h j hj).1, (World.frozen?_of_block (w := w) (a := ⟨b, j, none⟩) (o.block b hc)).trans (h j hj).2⟩
theorem Big.new (w : World) (T : TypeId) (N : Nat) (g : Nat → Int) {b : Nat} (hb : b = w.heap.size) : Big (w.alloc (.cells (av N g) T)) b T N g := by
  subst hb; exact heap_alloc_new w _
end Go.Proofs.Ytlifhoajamnehaa
