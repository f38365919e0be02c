/- Big: contracts of functions, and lemmas, for this seat. Conditions: as each states. -/
import Derived.Test.YtlifhoajamnehaaLaw
import Derived.Test.YtlifhoajamnehaaOps
import Derived.Test.YtlifhoajamnehaaFrac
set_option linter.unusedVariables false
set_option maxRecDepth 100000
set_option maxHeartbeats 1000000
namespace Go.Proofs.Ytlifhoajamnehaa
open Go Go.RowKit
/-! arrays of many numbers: a block, by what it holds -/
def av (N : Nat) (g : Nat → Int) : Array Value := ((List.range N).map fun i => Value.int .i64 (g i)).toArray
theorem av_size (N : Nat) (g : Nat → Int) : (av N g).size = N := by unfold av; simp
theorem av_get {N : Nat} {g : Nat → Int} {j : Nat} (h : j < N) : (av N g)[j]? = some (.int .i64 (g j)) := by unfold av; simp [h]
theorem av_one (N : Nat) (g : Nat → Int) : ∀ v ∈ (av N g).toList, v.oneCell' = true := by
  unfold av
  intro v hv
  simp at hv
  obtain ⟨i, _, rfl⟩ := hv
  rfl
theorem av_congr {N : Nat} {g h : Nat → Int} (e : ∀ i, i < N → g i = h i) : av N g = av N h := by
  unfold av
  refine congrArg List.toArray (List.map_congr_left fun i hi => ?_)
  rw [e i (List.mem_range.1 hi)]
theorem av_set (N : Nat) (g : Nat → Int) (j : Nat) (v : Int) : (av N g).setIfInBounds j (.int .i64 v) = av N (fun i => if i = j then v else g i) := by
  refine Array.ext_getElem? fun i => ?_
  rw [Array.getElem?_setIfInBounds, av_size]
  by_cases h : i < N
  · rw [av_get h, av_get h]
    by_cases e : j = i
    · subst e; simp [h]
    · rw [if_neg e, if_neg (Ne.symm e)]
  · rw [Array.getElem?_eq_none (by rw [av_size]; omega), Array.getElem?_eq_none (by rw [av_size]; omega)]
    by_cases e : j = i
    · subst e; simp [h]
    · rw [if_neg e]
def Big (w : World) (b : Nat) (T : TypeId) (N : Nat) (g : Nat → Int) : Prop := w.heap[b]? = some (.cells (av N g) T (0, 0))
theorem Big.lt {w : World} {b : Nat} {T : TypeId} {N : Nat} {g : Nat → Int} (h : Big w b T N g) : b < w.heap.size := row_lt h
theorem Big.ext {w w' : World} {b : Nat} {T : TypeId} {N : Nat} {g : Nat → Int} (h : Big w b T N g) (hx : Ext w w') : Big w' b T N g := (hx.at h.lt).trans h
theorem Big.cell {w : World} {b : Nat} {T : TypeId} {N : Nat} {g : Nat → Int} (h : Big w b T N g) {j : Nat} (hj : j < N) : w.cell? ⟨b, j, none⟩ = some (.int .i64 (g j)) := (cell_of_row w b j _ T _ h).trans (av_get hj)
theorem Big.free {w : World} {b : Nat} {T : TypeId} {N : Nat} {g : Nat → Int} (h : Big w b T N g) (j : Nat) : w.frozen? ⟨b, j, none⟩ = false := frozen_of_row w b j _ T h
theorem Big.far {w : World} {b : Nat} {T : TypeId} {N : Nat} {g : Nat → Int} (h : Big w b T N g) {p : Addr} (hp : b ≠ p.block) (v : Value) : Big (w.setCell p v) b T N g := (heap_setCell_other w p b v hp).trans h
theorem Big.set {w : World} {b : Nat} {T : TypeId} {N : Nat} {g : Nat → Int} (h : Big w b T N g) (j : Nat) (v : Int) : Big (w.setCell ⟨b, j, none⟩ (.int .i64 v)) b T N (fun i => if i = j then v else g i) := by
  have := heap_setCell_same w b j _ T (.int .i64 v) h
  rw [av_set] at this
  exact this
theorem Big.congr {w : World} {b : Nat} {T : TypeId} {N : Nat} {g k : Nat → Int} (h : Big w b T N g) (e : ∀ i, i < N → g i = k i) : Big w b T N k := by unfold Big at *; rw [h, av_congr e]
theorem Big.only {w w' : World} {b c : Nat} {T : TypeId} {N : Nat} {g : Nat → Int} (h : Big w b T N g) (o : Only c w w') (hc : b ≠ c) : Big w' b T N g := (o.block b hc).trans h
theorem Arr.only {w w' : World} {b c : Nat} {g : Nat → Int} (h : Arr w b g) (o : Only c w w') (hc : b ≠ c) : Arr w' b g := fun j hj =>
  ⟨(World.cell?_of_block (w := w) (a := ⟨b, j, none⟩) (o.block b hc)).trans (h j hj).1, (World.frozen?_of_block (w := w) (a := ⟨b, j, none⟩) (o.block b hc)).trans (h j hj).2⟩
theorem Big.new (w : World) (T : TypeId) (N : Nat) (g : Nat → Int) {b : Nat} (hb : b = w.heap.size) : Big (w.alloc (.cells (av N g) T)) b T N g := by
  subst hb; exact heap_alloc_new w _
/-- how many cells a stamp, pressed at the cell with a number, has in common with a sheet -/
def cm (n m k : Nat) : Nat := cnt (n &&& sh m (k % 6) (k / 6))
theorem cm_le (n m k : Nat) : cm n m k ≤ 36 := cnt_le _
/-- of the cells below k, how many have c in common -/
def tbl (f : Nat → Nat) : Nat → Nat → Nat
  | 0, _ => 0
  | k + 1, c => if c = f k then tbl f k c + 1 else tbl f k c
theorem tbl_le (f : Nat → Nat) : ∀ k c, tbl f k c ≤ k
  | 0, _ => Nat.le_refl 0
  | k + 1, c => by
    have := tbl_le f k c
    rw [tbl]; split <;> omega
def tbI (f : Nat → Nat) (k c : Nat) : Int := (tbl f k c : Nat)
theorem tbI_step (f : Nat → Nat) (k c : Nat) : (if c = f k then tbI f k (f k) + 1 else tbI f k c) = tbI f (k + 1) c := by
  unfold tbI
  rw [tbl]
  split
  · rename_i h; subst h; omega
  · rfl
theorem tbI_0 (f : Nat → Nat) (c : Nat) : tbI f 0 c = 0 := rfl
theorem zeros37 : (#[.int .i64 0, .int .i64 0, .int .i64 0, .int .i64 0, .int .i64 0, .int .i64 0, .int .i64 0, .int .i64 0, .int .i64 0, .int .i64 0, .int .i64 0, .int .i64 0, .int .i64 0, .int .i64 0, .int .i64 0, .int .i64 0, .int .i64 0, .int .i64 0, .int .i64 0, .int .i64 0, .int .i64 0, .int .i64 0, .int .i64 0, .int .i64 0, .int .i64 0, .int .i64 0, .int .i64 0, .int .i64 0, .int .i64 0, .int .i64 0, .int .i64 0, .int .i64 0, .int .i64 0, .int .i64 0, .int .i64 0, .int .i64 0, .int .i64 0] : Array Value) = av 37 (fun _ => 0) := by kernel_rfl
theorem size37 : (Try.prog.info? 53).map (·.size) = some 37 := by kernel_rfl
theorem Big.load37 {w : World} {b : Nat} {T : TypeId} {g : Nat → Int} (h : Big w b T 37 g) : (loadVar 53 ⟨b, 0, none⟩).run Try.prog w = .ok (.agg (av 37 g)) w :=
  run_loadVar_row w b T 53 (av 37 g) (0, 0) _ h Try.underlying53 rfl (by rw [av_size]; exact size37)
theorem zeros36 : (#[.int .i64 0, .int .i64 0, .int .i64 0, .int .i64 0, .int .i64 0, .int .i64 0, .int .i64 0, .int .i64 0, .int .i64 0, .int .i64 0, .int .i64 0, .int .i64 0, .int .i64 0, .int .i64 0, .int .i64 0, .int .i64 0, .int .i64 0, .int .i64 0, .int .i64 0, .int .i64 0, .int .i64 0, .int .i64 0, .int .i64 0, .int .i64 0, .int .i64 0, .int .i64 0, .int .i64 0, .int .i64 0, .int .i64 0, .int .i64 0, .int .i64 0, .int .i64 0, .int .i64 0, .int .i64 0, .int .i64 0, .int .i64 0] : Array Value) = av 36 (fun _ => 0) := by kernel_rfl
theorem size36 : (Try.prog.info? 65).map (·.size) = some 36 := by kernel_rfl
theorem Big.load36 {w : World} {b : Nat} {T : TypeId} {g : Nat → Int} (h : Big w b T 36 g) : (loadVar 65 ⟨b, 0, none⟩).run Try.prog w = .ok (.agg (av 36 g)) w :=
  run_loadVar_row w b T 65 (av 36 g) (0, 0) _ h Try.underlying65 rfl (by rw [av_size]; exact size36)
theorem wpList_alloc_av {P : Program} {ops : Array Oper} {rest : List Oper} {o : Oper} {a : Act} {w : World} {Q : Exit → Act → World → Prop} {c : Array Value × TypeId} (hgd : o.guard = none) (hm : Makes P o a c)
    (k : wpList P ops Q rest (a.put o.dst (.pointer (some ⟨w.heap.size, 0, none⟩))) (w.alloc (.cells c.1 c.2))) : wpList P ops Q (o :: rest) a w :=
  wpList_plain hgd fun K hK => by
    unfold Oper.wp
    rw [hm w]
    exact hK _ _ k
theorem makes37 {o : Oper} {a : Act} (ho : o.op = .alloc 53) : Makes Try.prog o a (av 37 (fun _ => 0), 53) := fun w => by
  rw [← zeros37]
  simp only [execOp, ho]
  go_simp
theorem results37 {fn : Func} {p : Tmp} {tmps : Array Value} {w : World} {b : Nat} {T : TypeId} {g : Nat → Int} (h : fn.results = #[.cell p 53]) (hp : tmps.getD p undef = .pointer (some ⟨b, 0, none⟩)) (hb : Big w b T 37 g) : (results fn tmps).run Try.prog w = .ok (.agg (av 37 g)) w :=
  ret_cell h hp hb.load37
theorem results37_tmp {fn : Func} {p u : Tmp} {tmps : Array Value} {w : World} {b : Nat} {T : TypeId} {g : Nat → Int} {x : Value} (h : fn.results = #[.cell p 53, .tmp u]) (hp : tmps.getD p undef = .pointer (some ⟨b, 0, none⟩)) (hx : tmps.getD u undef = x) (hb : Big w b T 37 g) : (results fn tmps).run Try.prog w = .ok (.tuple #[.agg (av 37 g), x]) w :=
  ret_cell_tmp h hp hx hb.load37
theorem sz37 (g : Nat → Int) : (Try.prog.info? 53).map (·.size) = some (av 37 g).size := by rw [av_size]; exact size37
theorem szz (N : Nat) (g h : Nat → Int) : (av N g).size = (av N h).size := by rw [av_size, av_size]
theorem makes36 {o : Oper} {a : Act} (ho : o.op = .alloc 65) : Makes Try.prog o a (av 36 (fun _ => 0), 65) := fun w => by
  rw [← zeros36]
  simp only [execOp, ho]
  go_simp
theorem results36 {fn : Func} {p : Tmp} {tmps : Array Value} {w : World} {b : Nat} {T : TypeId} {g : Nat → Int} (h : fn.results = #[.cell p 65]) (hp : tmps.getD p undef = .pointer (some ⟨b, 0, none⟩)) (hb : Big w b T 36 g) : (results fn tmps).run Try.prog w = .ok (.agg (av 36 g)) w :=
  ret_cell h hp hb.load36
theorem results36_tmp {fn : Func} {p u : Tmp} {tmps : Array Value} {w : World} {b : Nat} {T : TypeId} {g : Nat → Int} {x : Value} (h : fn.results = #[.cell p 65, .tmp u]) (hp : tmps.getD p undef = .pointer (some ⟨b, 0, none⟩)) (hx : tmps.getD u undef = x) (hb : Big w b T 36 g) : (results fn tmps).run Try.prog w = .ok (.tuple #[.agg (av 36 g), x]) w :=
  ret_cell_tmp h hp hx hb.load36
theorem sz36 (g : Nat → Int) : (Try.prog.info? 65).map (·.size) = some (av 36 g).size := by rw [av_size]; exact size36
theorem szz6 (N : Nat) (g h : Nat → Int) : (av N g).size = (av N h).size := by rw [av_size, av_size]
theorem wpList_value {P : Program} {ops : Array Oper} {rest : List Oper} {o : Oper} {a : Act} {w : World} {Q : Exit → Act → World → Prop} {v : Value} (hgd : o.guard = none) (hv : (execOp a.eval o).run P w = .ok (.value v) w)
    (k : wpList P ops Q rest (a.put o.dst v) w) : wpList P ops Q (o :: rest) a w :=
  wpList_plain hgd fun K hK => by
    unfold Oper.wp
    rw [hv]
    exact hK _ _ k
theorem build37 {o : Oper} {a : Act} {w : World} (ho : o.op = .build 53 #[]) : (execOp a.eval o).run Try.prog w = .ok (.value (.agg (av 37 (fun _ => 0)))) w := by
  rw [← zeros37]
  simp only [execOp, ho]
  go_simp
theorem Big.new37 (w : World) (T : TypeId) {b : Nat} (hb : b = w.heap.size) : Big (w.alloc (.cells #[.int .i64 0, .int .i64 0, .int .i64 0, .int .i64 0, .int .i64 0, .int .i64 0, .int .i64 0, .int .i64 0, .int .i64 0, .int .i64 0, .int .i64 0, .int .i64 0, .int .i64 0, .int .i64 0, .int .i64 0, .int .i64 0, .int .i64 0, .int .i64 0, .int .i64 0, .int .i64 0, .int .i64 0, .int .i64 0, .int .i64 0, .int .i64 0, .int .i64 0, .int .i64 0, .int .i64 0, .int .i64 0, .int .i64 0, .int .i64 0, .int .i64 0, .int .i64 0, .int .i64 0, .int .i64 0, .int .i64 0, .int .i64 0, .int .i64 0] T)) b T 37 (fun _ => 0) := by
  rw [zeros37]; exact Big.new w T 37 _ hb
theorem build36 {o : Oper} {a : Act} {w : World} (ho : o.op = .build 65 #[]) : (execOp a.eval o).run Try.prog w = .ok (.value (.agg (av 36 (fun _ => 0)))) w := by
  rw [← zeros36]
  simp only [execOp, ho]
  go_simp
theorem Big.new36 (w : World) (T : TypeId) {b : Nat} (hb : b = w.heap.size) : Big (w.alloc (.cells #[.int .i64 0, .int .i64 0, .int .i64 0, .int .i64 0, .int .i64 0, .int .i64 0, .int .i64 0, .int .i64 0, .int .i64 0, .int .i64 0, .int .i64 0, .int .i64 0, .int .i64 0, .int .i64 0, .int .i64 0, .int .i64 0, .int .i64 0, .int .i64 0, .int .i64 0, .int .i64 0, .int .i64 0, .int .i64 0, .int .i64 0, .int .i64 0, .int .i64 0, .int .i64 0, .int .i64 0, .int .i64 0, .int .i64 0, .int .i64 0, .int .i64 0, .int .i64 0, .int .i64 0, .int .i64 0, .int .i64 0, .int .i64 0] T)) b T 36 (fun _ => 0) := by
  rw [zeros36]; exact Big.new w T 36 _ hb
end Go.Proofs.Ytlifhoajamnehaa
