/- Big Table Mirror: contracts of functions, and lemmas, for this seat. Conditions: as each states. -/
import Derived.Test.YtlifhoajamnehaaCo03
import Derived.Test.YtlifhoajamnehaaCo04
import Derived.Test.YtlifhoajamnehaaCo07
import Derived.Test.YtlifhoajamnehaaCo06
set_option linter.unusedVariables false
set_option linter.unusedSimpArgs false
set_option maxRecDepth 100000
set_option maxHeartbeats 1000000
namespace Go.Proofs.Ytlifhoajamnehaa
open Go Go.RowKit
/-! arrays of many numbers: a block, by what it holds -/
def av (N : Nat) (g : Nat → Int) : Array Value := ((List.range N).map fun i => Value.int .i64 (g i)).toArray
theorem av_size (N : Nat) (g : Nat → Int) : (av N g).size = N := by unfold av; simp
theorem av_get {N : Nat} {g : Nat → Int} {j : Nat} (h : j < N) : (av N g)[j]? = some (.int .i64 (g j)) := by unfold av; simp [h]
theorem av_one (N : Nat) (g : Nat → Int) : ∀ v ∈ (av N g).toList, v.oneCell' = true := by
  unfold av
  intro v hv
  simp at hv
  obtain ⟨i, _, rfl⟩ := hv
  rfl
theorem av_congr {N : Nat} {g h : Nat → Int} (e : ∀ i, i < N → g i = h i) : av N g = av N h := by
  unfold av
  refine congrArg List.toArray (List.map_congr_left fun i hi => ?_)
  rw [e i (List.mem_range.1 hi)]
theorem av_set (N : Nat) (g : Nat → Int) (j : Nat) (v : Int) : (av N g).setIfInBounds j (.int .i64 v) = av N (fun i => if i = j then v else g i) := by
  refine Array.ext_getElem? fun i => ?_
  rw [Array.getElem?_setIfInBounds, av_size]
  by_cases h : i < N
  · rw [av_get h, av_get h]
    by_cases e : j = i
    · subst e; simp [h]
    · rw [if_neg e, if_neg (Ne.symm e)]
  · rw [Array.getElem?_eq_none (by rw [av_size]; omega), Array.getElem?_eq_none (by rw [av_size]; omega)]
    by_cases e : j = i
    · subst e; simp [h]
    · rw [if_neg e]
def Big (w : World) (b : Nat) (T : TypeId) (N : Nat) (g : Nat → Int) : Prop := w.heap[b]? = some (.cells (av N g) T (0, 0))
theorem Big.lt {w : World} {b : Nat} {T : TypeId} {N : Nat} {g : Nat → Int} (h : Big w b T N g) : b < w.heap.size := row_lt h
theorem Big.ext {w w' : World} {b : Nat} {T : TypeId} {N : Nat} {g : Nat → Int} (h : Big w b T N g) (hx : Ext w w') : Big w' b T N g := (hx.at h.lt).trans h
theorem Big.cell {w : World} {b : Nat} {T : TypeId} {N : Nat} {g : Nat → Int} (h : Big w b T N g) {j : Nat} (hj : j < N) : w.cell? ⟨b, j, none⟩ = some (.int .i64 (g j)) := (cell_of_row w b j _ T _ h).trans (av_get hj)
theorem Big.free {w : World} {b : Nat} {T : TypeId} {N : Nat} {g : Nat → Int} (h : Big w b T N g) (j : Nat) : w.frozen? ⟨b, j, none⟩ = false := frozen_of_row w b j _ T h
theorem Big.far {w : World} {b : Nat} {T : TypeId} {N : Nat} {g : Nat → Int} (h : Big w b T N g) {p : Addr} (hp : b ≠ p.block) (v : Value) : Big (w.setCell p v) b T N g := (heap_setCell_other w p b v hp).trans h
theorem Big.set {w : World} {b : Nat} {T : TypeId} {N : Nat} {g : Nat → Int} (h : Big w b T N g) (j : Nat) (v : Int) : Big (w.setCell ⟨b, j, none⟩ (.int .i64 v)) b T N (fun i => if i = j then v else g i) := by
  have := heap_setCell_same w b j _ T (.int .i64 v) h
  rw [av_set] at this
  exact this
theorem Big.congr {w : World} {b : Nat} {T : TypeId} {N : Nat} {g k : Nat → Int} (h : Big w b T N g) (e : ∀ i, i < N → g i = k i) : Big w b T N k := by unfold Big at *; rw [h, av_congr e]
theorem Big.only {w w' : World} {b c : Nat} {T : TypeId} {N : Nat} {g : Nat → Int} (h : Big w b T N g) (o : Only c w w') (hc : b ≠ c) : Big w' b T N g := (o.block b hc).trans h
theorem Arr.only {w w' : World} {b c : Nat} {g : Nat → Int} (h : Arr w b g) (o : Only c w w') (hc : b ≠ c) : Arr w' b g := fun j hj =>
  ⟨(World.cell?_of_block (w := w) (a := ⟨b, j, none⟩) (o.block b hc)).trans (h j hj).1, (World.frozen?_of_block (w := w) (a := ⟨b, j, none⟩) (o.block b hc)).trans (h j hj).2⟩
theorem Big.new (w : World) (T : TypeId) (N : Nat) (g : Nat → Int) {b : Nat} (hb : b = w.heap.size) : Big (w.alloc (.cells (av N g) T)) b T N g := by
  subst hb; exact heap_alloc_new w _
/-- how many cells a stamp, pressed at the cell with a number, has in common with a sheet -/
def cm (n m k : Nat) : Nat := cnt (n &&& sh m (k % 6) (k / 6))
theorem cm_le (n m k : Nat) : cm n m k ≤ 36 := cnt_le _
/-- of the cells below k, how many have c in common -/
def tbl (f : Nat → Nat) : Nat → Nat → Nat
  | 0, _ => 0
  | k + 1, c => if c = f k then tbl f k c + 1 else tbl f k c
theorem tbl_le (f : Nat → Nat) : ∀ k c, tbl f k c ≤ k
  | 0, _ => Nat.le_refl 0
  | k + 1, c => by
    have := tbl_le f k c
    rw [tbl]; split <;> omega
def tbI (f : Nat → Nat) (k c : Nat) : Int := (tbl f k c : Nat)
theorem tbI_step (f : Nat → Nat) (k c : Nat) : (if c = f k then tbI f k (f k) + 1 else tbI f k c) = tbI f (k + 1) c := by
  unfold tbI
  rw [tbl]
  split
  · rename_i h; subst h; omega
  · rfl
theorem tbI_0 (f : Nat → Nat) (c : Nat) : tbI f 0 c = 0 := rfl
theorem zeros37 : (#[.int .i64 0, .int .i64 0, .int .i64 0, .int .i64 0, .int .i64 0, .int .i64 0, .int .i64 0, .int .i64 0, .int .i64 0, .int .i64 0, .int .i64 0, .int .i64 0, .int .i64 0, .int .i64 0, .int .i64 0, .int .i64 0, .int .i64 0, .int .i64 0, .int .i64 0, .int .i64 0, .int .i64 0, .int .i64 0, .int .i64 0, .int .i64 0, .int .i64 0, .int .i64 0, .int .i64 0, .int .i64 0, .int .i64 0, .int .i64 0, .int .i64 0, .int .i64 0, .int .i64 0, .int .i64 0, .int .i64 0, .int .i64 0, .int .i64 0] : Array Value) = av 37 (fun _ => 0) := by kernel_rfl
theorem size37 : (Try.prog.info? 53).map (·.size) = some 37 := by kernel_rfl
theorem Big.load37 {w : World} {b : Nat} {T : TypeId} {g : Nat → Int} (h : Big w b T 37 g) : (loadVar 53 ⟨b, 0, none⟩).run Try.prog w = .ok (.agg (av 37 g)) w :=
  run_loadVar_row w b T 53 (av 37 g) (0, 0) _ h Try.underlying53 rfl (by rw [av_size]; exact size37)
theorem wpList_alloc_av {P : Program} {ops : Array Oper} {rest : List Oper} {o : Oper} {a : Act} {w : World} {Q : Exit → Act → World → Prop} {c : Array Value × TypeId} (hgd : o.guard = none) (hm : Makes P o a c)
    (k : wpList P ops Q rest (a.put o.dst (.pointer (some ⟨w.heap.size, 0, none⟩))) (w.alloc (.cells c.1 c.2))) : wpList P ops Q (o :: rest) a w :=
  wpList_plain hgd fun K hK => by
    unfold Oper.wp
    rw [hm w]
    exact hK _ _ k
theorem makes37 {o : Oper} {a : Act} (ho : o.op = .alloc 53) : Makes Try.prog o a (av 37 (fun _ => 0), 53) := fun w => by
  rw [← zeros37]
  simp only [execOp, ho]
  go_simp
theorem results37 {fn : Func} {p : Tmp} {tmps : Array Value} {w : World} {b : Nat} {T : TypeId} {g : Nat → Int} (h : fn.results = #[.cell p 53]) (hp : tmps.getD p undef = .pointer (some ⟨b, 0, none⟩)) (hb : Big w b T 37 g) : (results fn tmps).run Try.prog w = .ok (.agg (av 37 g)) w :=
  ret_cell h hp hb.load37
theorem results37_tmp {fn : Func} {p u : Tmp} {tmps : Array Value} {w : World} {b : Nat} {T : TypeId} {g : Nat → Int} {x : Value} (h : fn.results = #[.cell p 53, .tmp u]) (hp : tmps.getD p undef = .pointer (some ⟨b, 0, none⟩)) (hx : tmps.getD u undef = x) (hb : Big w b T 37 g) : (results fn tmps).run Try.prog w = .ok (.tuple #[.agg (av 37 g), x]) w :=
  ret_cell_tmp h hp hx hb.load37
theorem sz37 (g : Nat → Int) : (Try.prog.info? 53).map (·.size) = some (av 37 g).size := by rw [av_size]; exact size37
theorem szz (N : Nat) (g h : Nat → Int) : (av N g).size = (av N h).size := by rw [av_size, av_size]
theorem wpList_value {P : Program} {ops : Array Oper} {rest : List Oper} {o : Oper} {a : Act} {w : World} {Q : Exit → Act → World → Prop} {v : Value} (hgd : o.guard = none) (hv : (execOp a.eval o).run P w = .ok (.value v) w)
    (k : wpList P ops Q rest (a.put o.dst v) w) : wpList P ops Q (o :: rest) a w :=
  wpList_plain hgd fun K hK => by
    unfold Oper.wp
    rw [hv]
    exact hK _ _ k
theorem build37 {o : Oper} {a : Act} {w : World} (ho : o.op = .build 53 #[]) : (execOp a.eval o).run Try.prog w = .ok (.value (.agg (av 37 (fun _ => 0)))) w := by
  rw [← zeros37]
  simp only [execOp, ho]
  go_simp
theorem Big.new37 (w : World) (T : TypeId) {b : Nat} (hb : b = w.heap.size) : Big (w.alloc (.cells #[.int .i64 0, .int .i64 0, .int .i64 0, .int .i64 0, .int .i64 0, .int .i64 0, .int .i64 0, .int .i64 0, .int .i64 0, .int .i64 0, .int .i64 0, .int .i64 0, .int .i64 0, .int .i64 0, .int .i64 0, .int .i64 0, .int .i64 0, .int .i64 0, .int .i64 0, .int .i64 0, .int .i64 0, .int .i64 0, .int .i64 0, .int .i64 0, .int .i64 0, .int .i64 0, .int .i64 0, .int .i64 0, .int .i64 0, .int .i64 0, .int .i64 0, .int .i64 0, .int .i64 0, .int .i64 0, .int .i64 0, .int .i64 0, .int .i64 0] T)) b T 37 (fun _ => 0) := by
  rw [zeros37]; exact Big.new w T 37 _ hb
end Go.Proofs.Ytlifhoajamnehaa
set_option linter.unusedVariables false
set_option linter.unusedSimpArgs false
set_option maxRecDepth 100000
set_option maxHeartbeats 1000000
namespace Go.Proofs.Ytlifhoajamnehaa
open Go Go.RowKit
theorem tbI_bd (f : Nat → Nat) (k c : Nat) (hk : k ≤ 36) : 0 ≤ tbI f k c ∧ tbI f k c ≤ 36 := by
  have := tbl_le f k c
  unfold tbI
  omega
theorem tb_set (f : Nat → Nat) (k C : Nat) (hC : C = f k) (i : Nat) : (if i = C then tbI f k C + 1 else tbI f k i) = tbI f (k + 1) i := by subst hC; exact tbI_step f k i
theorem l9Table_n (n m : Nat) (w : World) : Calls Try.prog 100 #[(.agg #[.int .i64 (rw n 0), .int .i64 (rw n 1), .int .i64 (rw n 2), .int .i64 (rw n 3), .int .i64 (rw n 4), .int .i64 (rw n 5)]), (.agg #[.int .i64 (rw m 0), .int .i64 (rw m 1), .int .i64 (rw m 2), .int .i64 (rw m 3), .int .i64 (rw m 4), .int .i64 (rw m 5)])] w fun e w' => e = .returned (.agg (av 37 (tbI (cm n m) 36))) ∧ Ext w w' := by
  skip
  go_enter Try.func100, Try.ntmps100
  go_wp2_with (first | (refine wpList_value rfl (build37 rfl) ?_; (try go_simp)) | (refine wpList_alloc_av rfl (makes37 rfl) ?_; (try go_simp)) | (refine wpList_store_new rfl rfl rfl rfl (b := w.heap.size + 3) (Big.new _ _ 37 _ (by simp)) (szz _ _ _) (sz37 _) (av_one _ _) ?_; intro w1 hO hN; (try go_simp)))
  have hxw : Ext w w1 := hO.ext (by (repeat' (first | (with_reducible exact Ext.refl _) | (with_reducible assumption) | (with_reducible refine Ext.alloc ?_ _) | (with_reducible refine Ext.drew ?_) | (with_reducible refine Ext.drewN ?_ _) | (with_reducible refine Ext.setCell ?_ ?_ _) | (with_reducible refine Ext.trans ?_ (by assumption)))) <;> (first | (with_reducible assumption) | omega | (simp; done) | (simp; omega))) (by omega)
  have HA := Lib.hid (((((Arr.new w (rw n) 26 rfl).alloc _ (by simp)).alloc _ (by first | (simp; done) | (simp; omega))).alloc _ (by first | (simp; done) | (simp; omega))).only hO (by omega))
  have HB := Lib.hid ((((Arr.new (w.alloc (.cells #[.int .i64 (rw n 0), .int .i64 (rw n 1), .int .i64 (rw n 2), .int .i64 (rw n 3), .int .i64 (rw n 4), .int .i64 (rw n 5)] 26)) (rw m) 26 (b := w.heap.size + 1) (by simp)).alloc _ (by simp)).alloc _ (by first | (simp; done) | (simp; omega))).only hO (by omega))
  have HR := Lib.hid (((Big.new37 ((w.alloc (.cells #[.int .i64 (rw n 0), .int .i64 (rw n 1), .int .i64 (rw n 2), .int .i64 (rw n 3), .int .i64 (rw n 4), .int .i64 (rw n 5)] 26)).alloc (.cells #[.int .i64 (rw m 0), .int .i64 (rw m 1), .int .i64 (rw m 2), .int .i64 (rw m 3), .int .i64 (rw m 4), .int .i64 (rw m 5)] 26)) 53 (b := w.heap.size + 2) (by simp)).ext ((Ext.refl _).alloc _)).only hO (by omega))
  have HT := Lib.hid (show Big w1 (w.heap.size + 3) 53 37 (fun _ => 0) from hN)
  clear hO hN
  go_loopw [6] (fun i wr => ∃ y : Nat, y ≤ 6 ∧ i = .int .i64 y ∧ Ext w wr ∧ Arr wr w.heap.size (rw n) ∧ Arr wr (w.heap.size + 1) (rw m) ∧ Big wr (w.heap.size + 2) 53 37 (fun _ => 0) ∧ Big wr (w.heap.size + 3) 53 37 (tbI (cm n m) (6 * y))) (fun i _ => 6 - (intOf i).toNat)
  case atStart => exact ⟨0, Nat.zero_le _, rfl, hxw, HA.out, HB.out, HR.out, HT.out.congr fun i _ => by rw [Nat.mul_zero, tbI_0]⟩
  case round =>
    obtain ⟨y, hy6, rfl, hx, ha, hb, hr, ht⟩ := hrel
    clear HA HB HR HT
    have HA := Lib.hid ha
    have HB := Lib.hid hb
    have HR := Lib.hid hr
    have HT := Lib.hid ht
    clear ha hb hr ht
    by_cases hlt : y < 6
    · have hd : decide ((y : Int) < 6) = true := decide_eq_true (by omega)
      go_wp2
      go_loopw [7] (fun i wr => ∃ x : Nat, x ≤ 6 ∧ i = .int .i64 x ∧ Ext w wr ∧ Arr wr w.heap.size (rw n) ∧ Arr wr (w.heap.size + 1) (rw m) ∧ Big wr (w.heap.size + 2) 53 37 (fun _ => 0) ∧ Big wr (w.heap.size + 3) 53 37 (tbI (cm n m) (6 * y + x))) (fun i _ => 6 - (intOf i).toNat)
      case atStart => exact ⟨0, Nat.zero_le _, rfl, hx, HA.out, HB.out, HR.out, HT.out⟩
      case round =>
        clear HA HB HR HT hx
        obtain ⟨x, hx6, rfl, hx, ha, hb, hr, ht⟩ := hrel
        obtain ⟨wo, rfl⟩ : ∃ wo : World, wo = wr := ⟨_, rfl⟩
        have HA := Lib.hid ha
        have HB := Lib.hid hb
        have HR := Lib.hid hr
        have HT := Lib.hid ht
        clear ha hb hr ht
        by_cases hlx : x < 6
        · obtain ⟨⟨c0, c1, c2, c3, c4, c5⟩, _⟩ := HA.out.all
          obtain ⟨⟨d0, d1, d2, d3, d4, d5⟩, _⟩ := HB.out.all
          have zt := HT.out.lt
          have za : w.heap.size < wo.heap.size := by omega
          have zb : w.heap.size + 1 < wo.heap.size := by omega
          have H1 := Lib.hid (fun w => l2Shift_n m (x : Int) (y : Int) w)
          rw [show m6 (x : Int) = x by unfold m6; omega, show m6 (y : Int) = y by unfold m6; omega] at H1
          have H2 := Lib.hid (fun w => l2And_n n (sh m x y) w)
          have H3 := Lib.hid (fun w => l2Count_n (n &&& sh m x y) w)
          have hF : cm n m (6 * y + x) = cnt (n &&& sh m x y) := by unfold cm; rw [show (6 * y + x) % 6 = x by omega, show (6 * y + x) / 6 = y by omega]
          rw [← hF] at H3
          obtain ⟨C, hC⟩ : ∃ C, C = cm n m (6 * y + x) := ⟨_, rfl⟩
          have hcm : C ≤ 36 := hC ▸ cm_le n m _
          rw [← hC] at H3
          have HC := Lib.hid hC
          clear hF hC
          obtain ⟨b0, b1⟩ := tbI_bd (cm n m) (6 * y + x) C (by omega)
          have ct := HT.out.cell (j := C) (by omega)
          go_wp2
          refine wp_calm 11 0 (fun _ => (#[], 0)) (by kernel_rfl) (by kernel_rfl) ?_; simp only [List.take_succ_cons, List.take_zero, List.drop_succ_cons, List.drop_zero]; intro hgr; (refine walkQ_step (fun K hK => ?_); go_simp; (try (go_ints; try go_simp)); first | (refine hK _ ?_; clear hK K) | (apply Exists.intro; refine ⟨fun _ => ?_, hK _ ?_⟩; (first | (go_at_call 81; exact (H1.out _)) | (go_at_call 109; exact (H2.out _)) | (go_at_call 104; exact (H3.out _))); clear hK K) | (simp only [↓IntWalk.iteOmega]; (try go_simp); (try (go_ints; try go_simp)); first | (refine hK _ ?_; clear hK K) | (apply Exists.intro; refine ⟨fun _ => ?_, hK _ ?_⟩; (first | (go_at_call 81; exact (H1.out _)) | (go_at_call 109; exact (H2.out _)) | (go_at_call 104; exact (H3.out _))); clear hK K))); (refine walkQ_step (fun K hK => ?_); go_simp; (try (go_ints; try go_simp)); first | (refine hK _ ?_; clear hK K) | (apply Exists.intro; refine ⟨fun _ => ?_, hK _ ?_⟩; (first | (go_at_call 81; exact (H1.out _)) | (go_at_call 109; exact (H2.out _)) | (go_at_call 104; exact (H3.out _))); clear hK K) | (simp only [↓IntWalk.iteOmega]; (try go_simp); (try (go_ints; try go_simp)); first | (refine hK _ ?_; clear hK K) | (apply Exists.intro; refine ⟨fun _ => ?_, hK _ ?_⟩; (first | (go_at_call 81; exact (H1.out _)) | (go_at_call 109; exact (H2.out _)) | (go_at_call 104; exact (H3.out _))); clear hK K))); (refine walkQ_step (fun K hK => ?_); go_simp; (try (go_ints; try go_simp)); first | (refine hK _ ?_; clear hK K) | (apply Exists.intro; refine ⟨fun _ => ?_, hK _ ?_⟩; (first | (go_at_call 81; exact (H1.out _)) | (go_at_call 109; exact (H2.out _)) | (go_at_call 104; exact (H3.out _))); clear hK K) | (simp only [↓IntWalk.iteOmega]; (try go_simp); (try (go_ints; try go_simp)); first | (refine hK _ ?_; clear hK K) | (apply Exists.intro; refine ⟨fun _ => ?_, hK _ ?_⟩; (first | (go_at_call 81; exact (H1.out _)) | (go_at_call 109; exact (H2.out _)) | (go_at_call 104; exact (H3.out _))); clear hK K))); (refine walkQ_step (fun K hK => ?_); go_simp; (try (go_ints; try go_simp)); first | (refine hK _ ?_; clear hK K) | (apply Exists.intro; refine ⟨fun _ => ?_, hK _ ?_⟩; (first | (go_at_call 81; exact (H1.out _)) | (go_at_call 109; exact (H2.out _)) | (go_at_call 104; exact (H3.out _))); clear hK K) | (simp only [↓IntWalk.iteOmega]; (try go_simp); (try (go_ints; try go_simp)); first | (refine hK _ ?_; clear hK K) | (apply Exists.intro; refine ⟨fun _ => ?_, hK _ ?_⟩; (first | (go_at_call 81; exact (H1.out _)) | (go_at_call 109; exact (H2.out _)) | (go_at_call 104; exact (H3.out _))); clear hK K))); (refine walkQ_step (fun K hK => ?_); go_simp; (try (go_ints; try go_simp)); first | (refine hK _ ?_; clear hK K) | (apply Exists.intro; refine ⟨fun _ => ?_, hK _ ?_⟩; (first | (go_at_call 81; exact (H1.out _)) | (go_at_call 109; exact (H2.out _)) | (go_at_call 104; exact (H3.out _))); clear hK K) | (simp only [↓IntWalk.iteOmega]; (try go_simp); (try (go_ints; try go_simp)); first | (refine hK _ ?_; clear hK K) | (apply Exists.intro; refine ⟨fun _ => ?_, hK _ ?_⟩; (first | (go_at_call 81; exact (H1.out _)) | (go_at_call 109; exact (H2.out _)) | (go_at_call 104; exact (H3.out _))); clear hK K))); (refine walkQ_step (fun K hK => ?_); go_simp; (try (go_ints; try go_simp)); first | (refine hK _ ?_; clear hK K) | (apply Exists.intro; refine ⟨fun _ => ?_, hK _ ?_⟩; (first | (go_at_call 81; exact (H1.out _)) | (go_at_call 109; exact (H2.out _)) | (go_at_call 104; exact (H3.out _))); clear hK K) | (simp only [↓IntWalk.iteOmega]; (try go_simp); (try (go_ints; try go_simp)); first | (refine hK _ ?_; clear hK K) | (apply Exists.intro; refine ⟨fun _ => ?_, hK _ ?_⟩; (first | (go_at_call 81; exact (H1.out _)) | (go_at_call 109; exact (H2.out _)) | (go_at_call 104; exact (H3.out _))); clear hK K))); (refine walkQ_step (fun K hK => ?_); go_simp; (try (go_ints; try go_simp)); first | (refine hK _ ?_; clear hK K) | (apply Exists.intro; refine ⟨fun _ => ?_, hK _ ?_⟩; (first | (go_at_call 81; exact (H1.out _)) | (go_at_call 109; exact (H2.out _)) | (go_at_call 104; exact (H3.out _))); clear hK K) | (simp only [↓IntWalk.iteOmega]; (try go_simp); (try (go_ints; try go_simp)); first | (refine hK _ ?_; clear hK K) | (apply Exists.intro; refine ⟨fun _ => ?_, hK _ ?_⟩; (first | (go_at_call 81; exact (H1.out _)) | (go_at_call 109; exact (H2.out _)) | (go_at_call 104; exact (H3.out _))); clear hK K))); (refine walkQ_step (fun K hK => ?_); go_simp; (try (go_ints; try go_simp)); first | (refine hK _ ?_; clear hK K) | (apply Exists.intro; refine ⟨fun _ => ?_, hK _ ?_⟩; (first | (go_at_call 81; exact (H1.out _)) | (go_at_call 109; exact (H2.out _)) | (go_at_call 104; exact (H3.out _))); clear hK K) | (simp only [↓IntWalk.iteOmega]; (try go_simp); (try (go_ints; try go_simp)); first | (refine hK _ ?_; clear hK K) | (apply Exists.intro; refine ⟨fun _ => ?_, hK _ ?_⟩; (first | (go_at_call 81; exact (H1.out _)) | (go_at_call 109; exact (H2.out _)) | (go_at_call 104; exact (H3.out _))); clear hK K))); (refine walkQ_step (fun K hK => ?_); go_simp; (try (go_ints; try go_simp)); first | (refine hK _ ?_; clear hK K) | (apply Exists.intro; refine ⟨fun _ => ?_, hK _ ?_⟩; (first | (go_at_call 81; exact (H1.out _)) | (go_at_call 109; exact (H2.out _)) | (go_at_call 104; exact (H3.out _))); clear hK K) | (simp only [↓IntWalk.iteOmega]; (try go_simp); (try (go_ints; try go_simp)); first | (refine hK _ ?_; clear hK K) | (apply Exists.intro; refine ⟨fun _ => ?_, hK _ ?_⟩; (first | (go_at_call 81; exact (H1.out _)) | (go_at_call 109; exact (H2.out _)) | (go_at_call 104; exact (H3.out _))); clear hK K))); (refine walkQ_step (fun K hK => ?_); go_simp; (try (go_ints; try go_simp)); first | (refine hK _ ?_; clear hK K) | (apply Exists.intro; refine ⟨fun _ => ?_, hK _ ?_⟩; (first | (go_at_call 81; exact (H1.out _)) | (go_at_call 109; exact (H2.out _)) | (go_at_call 104; exact (H3.out _))); clear hK K) | (simp only [↓IntWalk.iteOmega]; (try go_simp); (try (go_ints; try go_simp)); first | (refine hK _ ?_; clear hK K) | (apply Exists.intro; refine ⟨fun _ => ?_, hK _ ?_⟩; (first | (go_at_call 81; exact (H1.out _)) | (go_at_call 109; exact (H2.out _)) | (go_at_call 104; exact (H3.out _))); clear hK K))); (refine walkQ_step (fun K hK => ?_); go_simp; (try (go_ints; try go_simp)); first | (refine hK _ ?_; clear hK K) | (apply Exists.intro; refine ⟨fun _ => ?_, hK _ ?_⟩; (first | (go_at_call 81; exact (H1.out _)) | (go_at_call 109; exact (H2.out _)) | (go_at_call 104; exact (H3.out _))); clear hK K) | (simp only [↓IntWalk.iteOmega]; (try go_simp); (try (go_ints; try go_simp)); first | (refine hK _ ?_; clear hK K) | (apply Exists.intro; refine ⟨fun _ => ?_, hK _ ?_⟩; (first | (go_at_call 81; exact (H1.out _)) | (go_at_call 109; exact (H2.out _)) | (go_at_call 104; exact (H3.out _))); clear hK K))); refine walkQ_nil ?_; clear hgr; refine walkF_nil ?_; intro w1 hE _; have hc2 := hE.cells; have hf2 := hE.frees; have hz2 := hE.size
          replace hE : Ext wo w1 := ((Ext.refl wo).drew).trans hE
          have HT1 := Lib.hid (HT.out.ext hE)
          have ft := HT1.out.free C
          have ct1 := HT1.out.cell (j := C) (by omega)
          go_wp2
          (first | exact ⟨⟨x + 1, by omega, by go_num, (by (repeat' (first | (with_reducible exact Ext.refl _) | (with_reducible assumption) | (with_reducible refine Ext.alloc ?_ _) | (with_reducible refine Ext.drew ?_) | (with_reducible refine Ext.drewN ?_ _) | (with_reducible refine Ext.setCell ?_ ?_ _) | (with_reducible refine Ext.trans ?_ (by assumption)))) <;> (first | (with_reducible assumption) | omega | (simp; done) | (simp; omega))), (HA.out.ext hE za).far (by dsimp only; omega) _, (HB.out.ext hE zb).far (by dsimp only; omega) _, (HR.out.ext hE).far (by dsimp only; omega) _, (HT1.out.set C _).congr fun i _ => tb_set (cm n m) (6 * y + x) C HC.out i⟩, by simp [intOf]; omega⟩ | (refine ⟨?_, by simp [intOf]; omega⟩; (repeat apply Exists.intro); exact ⟨⟨x + 1, by omega, by go_num, (by (repeat' (first | (with_reducible exact Ext.refl _) | (with_reducible assumption) | (with_reducible refine Ext.alloc ?_ _) | (with_reducible refine Ext.drew ?_) | (with_reducible refine Ext.drewN ?_ _) | (with_reducible refine Ext.setCell ?_ ?_ _) | (with_reducible refine Ext.trans ?_ (by assumption)))) <;> (first | (with_reducible assumption) | omega | (simp; done) | (simp; omega))), (HA.out.ext hE za).far (by dsimp only; omega) _, (HB.out.ext hE zb).far (by dsimp only; omega) _, (HR.out.ext hE).far (by dsimp only; omega) _, (HT1.out.set C _).congr fun i _ => tb_set (cm n m) (6 * y + x) C HC.out i⟩, rfl⟩))
        · obtain rfl : x = 6 := by omega
          go_wp2
          (first | exact ⟨⟨y + 1, by omega, by go_num, hx, HA.out, HB.out, HR.out, by rw [show 6 * (y + 1) = 6 * y + 6 by omega]; exact HT.out⟩, by simp [intOf]; omega⟩ | (refine ⟨?_, by simp [intOf]; omega⟩; (repeat apply Exists.intro); exact ⟨⟨y + 1, by omega, by go_num, hx, HA.out, HB.out, HR.out, by rw [show 6 * (y + 1) = 6 * y + 6 by omega]; exact HT.out⟩, rfl⟩))
    · obtain rfl : y = 6 := by omega
      rw [show 6 * 6 = 36 from rfl] at HT
      go_wp2_with (first | (refine wpList_load_row rfl 53 (.tmp 5) rfl _ rfl _ _ _ _ HT.out Try.underlying53 rfl (sz37 _) ?_; (try go_simp)) | (refine wpList_store_new rfl rfl rfl rfl (b := w.heap.size + 2) HR.out (szz _ _ _) (sz37 _) (av_one _ _) ?_; intro w1 hO hN; (try go_simp)))
      exact bodyPost_ret (results37 rfl rfl hN) rfl ⟨rfl, hO.ext hx (by omega)⟩
theorem sCommonTable_bad (r s : Nat → Int) (h : (vs r && vs s) = false) (w : World) : Calls Try.prog 32 #[(.agg #[.int .i64 (r 0), .int .i64 (r 1), .int .i64 (r 2), .int .i64 (r 3), .int .i64 (r 4), .int .i64 (r 5)]), (.agg #[.int .i64 (s 0), .int .i64 (s 1), .int .i64 (s 2), .int .i64 (s 3), .int .i64 (s 4), .int .i64 (s 5)])] w fun e w' => e = .returned (.tuple #[.agg (av 37 (fun _ => 0)), .bool false]) ∧ Ext w w' := by
  cases h1 : vs r <;> cases h2 : vs s <;> rw [h1, h2] at h
  all_goals first
    | (exact absurd h (by decide))
    | skip
  all_goals
    clear h
    replace h1 := Lib.hid h1
    replace h2 := Lib.hid h2
    skip
    go_enter Try.func32, Try.ntmps32
    have tk0 := Lib.hid True.intro
    go_wp2_with (first | (refine wpList_value rfl (build37 rfl) ?_; (try go_simp)) | (clear tk0; (go_at_call 75; refine (l2Sheet_is r _ h1.out _).mono ?_; rintro e w1 ⟨rfl, hE⟩; replace HR := Lib.hid ((show Big _ (w.heap.size + 2) 53 37 (fun _ => 0) by first | exact HR.out | exact Big.new37 _ _ (by first | rfl | (simp; done) | (simp; omega)) | exact Big.new _ _ _ _ (by first | rfl | (simp; done) | (simp; omega)) | exact (Big.new _ _ _ _ (by first | rfl | (simp; done) | (simp; omega))).ext ((Ext.refl _).alloc _) | exact ((Big.new _ _ _ _ (by first | rfl | (simp; done) | (simp; omega))).ext ((Ext.refl _).alloc _)).ext ((Ext.refl _).alloc _)).ext hE); replace k0_0 : w1.cell? ⟨w.heap.size, 0, none⟩ = some (.int .i64 (r 0)) := (hE.cells _ _ (by first | exact l0 | (simp; done) | (simp; omega))).trans (by first | exact k0_0 | (go_simp; done)); replace k0_1 : w1.cell? ⟨w.heap.size, 1, none⟩ = some (.int .i64 (r 1)) := (hE.cells _ _ (by first | exact l0 | (simp; done) | (simp; omega))).trans (by first | exact k0_1 | (go_simp; done)); replace k0_2 : w1.cell? ⟨w.heap.size, 2, none⟩ = some (.int .i64 (r 2)) := (hE.cells _ _ (by first | exact l0 | (simp; done) | (simp; omega))).trans (by first | exact k0_2 | (go_simp; done)); replace k0_3 : w1.cell? ⟨w.heap.size, 3, none⟩ = some (.int .i64 (r 3)) := (hE.cells _ _ (by first | exact l0 | (simp; done) | (simp; omega))).trans (by first | exact k0_3 | (go_simp; done)); replace k0_4 : w1.cell? ⟨w.heap.size, 4, none⟩ = some (.int .i64 (r 4)) := (hE.cells _ _ (by first | exact l0 | (simp; done) | (simp; omega))).trans (by first | exact k0_4 | (go_simp; done)); replace k0_5 : w1.cell? ⟨w.heap.size, 5, none⟩ = some (.int .i64 (r 5)) := (hE.cells _ _ (by first | exact l0 | (simp; done) | (simp; omega))).trans (by first | exact k0_5 | (go_simp; done)); replace k1_0 : w1.cell? ⟨w.heap.size + 1, 0, none⟩ = some (.int .i64 (s 0)) := (hE.cells _ _ (by first | exact l1 | (simp; done) | (simp; omega))).trans (by first | exact k1_0 | (go_simp; done)); replace k1_1 : w1.cell? ⟨w.heap.size + 1, 1, none⟩ = some (.int .i64 (s 1)) := (hE.cells _ _ (by first | exact l1 | (simp; done) | (simp; omega))).trans (by first | exact k1_1 | (go_simp; done)); replace k1_2 : w1.cell? ⟨w.heap.size + 1, 2, none⟩ = some (.int .i64 (s 2)) := (hE.cells _ _ (by first | exact l1 | (simp; done) | (simp; omega))).trans (by first | exact k1_2 | (go_simp; done)); replace k1_3 : w1.cell? ⟨w.heap.size + 1, 3, none⟩ = some (.int .i64 (s 3)) := (hE.cells _ _ (by first | exact l1 | (simp; done) | (simp; omega))).trans (by first | exact k1_3 | (go_simp; done)); replace k1_4 : w1.cell? ⟨w.heap.size + 1, 4, none⟩ = some (.int .i64 (s 4)) := (hE.cells _ _ (by first | exact l1 | (simp; done) | (simp; omega))).trans (by first | exact k1_4 | (go_simp; done)); replace k1_5 : w1.cell? ⟨w.heap.size + 1, 5, none⟩ = some (.int .i64 (s 5)) := (hE.cells _ _ (by first | exact l1 | (simp; done) | (simp; omega))).trans (by first | exact k1_5 | (go_simp; done)); replace l0 : w.heap.size < w1.heap.size := Nat.lt_of_lt_of_le (by first | exact l0 | (simp; done) | (simp; omega)) hE.size; replace l1 : w.heap.size + 1 < w1.heap.size := Nat.lt_of_lt_of_le (by first | exact l1 | (simp; done) | (simp; omega)) hE.size)) | (go_at_call 75; refine (l2Sheet_is s _ h2.out _).mono ?_; rintro e w1 ⟨rfl, hE⟩; replace HR := Lib.hid ((show Big _ (w.heap.size + 2) 53 37 (fun _ => 0) by first | exact HR.out | exact Big.new37 _ _ (by first | rfl | (simp; done) | (simp; omega)) | exact Big.new _ _ _ _ (by first | rfl | (simp; done) | (simp; omega)) | exact (Big.new _ _ _ _ (by first | rfl | (simp; done) | (simp; omega))).ext ((Ext.refl _).alloc _) | exact ((Big.new _ _ _ _ (by first | rfl | (simp; done) | (simp; omega))).ext ((Ext.refl _).alloc _)).ext ((Ext.refl _).alloc _)).ext hE); replace k0_0 : w1.cell? ⟨w.heap.size, 0, none⟩ = some (.int .i64 (r 0)) := (hE.cells _ _ (by first | exact l0 | (simp; done) | (simp; omega))).trans (by first | exact k0_0 | (go_simp; done)); replace k0_1 : w1.cell? ⟨w.heap.size, 1, none⟩ = some (.int .i64 (r 1)) := (hE.cells _ _ (by first | exact l0 | (simp; done) | (simp; omega))).trans (by first | exact k0_1 | (go_simp; done)); replace k0_2 : w1.cell? ⟨w.heap.size, 2, none⟩ = some (.int .i64 (r 2)) := (hE.cells _ _ (by first | exact l0 | (simp; done) | (simp; omega))).trans (by first | exact k0_2 | (go_simp; done)); replace k0_3 : w1.cell? ⟨w.heap.size, 3, none⟩ = some (.int .i64 (r 3)) := (hE.cells _ _ (by first | exact l0 | (simp; done) | (simp; omega))).trans (by first | exact k0_3 | (go_simp; done)); replace k0_4 : w1.cell? ⟨w.heap.size, 4, none⟩ = some (.int .i64 (r 4)) := (hE.cells _ _ (by first | exact l0 | (simp; done) | (simp; omega))).trans (by first | exact k0_4 | (go_simp; done)); replace k0_5 : w1.cell? ⟨w.heap.size, 5, none⟩ = some (.int .i64 (r 5)) := (hE.cells _ _ (by first | exact l0 | (simp; done) | (simp; omega))).trans (by first | exact k0_5 | (go_simp; done)); replace k1_0 : w1.cell? ⟨w.heap.size + 1, 0, none⟩ = some (.int .i64 (s 0)) := (hE.cells _ _ (by first | exact l1 | (simp; done) | (simp; omega))).trans (by first | exact k1_0 | (go_simp; done)); replace k1_1 : w1.cell? ⟨w.heap.size + 1, 1, none⟩ = some (.int .i64 (s 1)) := (hE.cells _ _ (by first | exact l1 | (simp; done) | (simp; omega))).trans (by first | exact k1_1 | (go_simp; done)); replace k1_2 : w1.cell? ⟨w.heap.size + 1, 2, none⟩ = some (.int .i64 (s 2)) := (hE.cells _ _ (by first | exact l1 | (simp; done) | (simp; omega))).trans (by first | exact k1_2 | (go_simp; done)); replace k1_3 : w1.cell? ⟨w.heap.size + 1, 3, none⟩ = some (.int .i64 (s 3)) := (hE.cells _ _ (by first | exact l1 | (simp; done) | (simp; omega))).trans (by first | exact k1_3 | (go_simp; done)); replace k1_4 : w1.cell? ⟨w.heap.size + 1, 4, none⟩ = some (.int .i64 (s 4)) := (hE.cells _ _ (by first | exact l1 | (simp; done) | (simp; omega))).trans (by first | exact k1_4 | (go_simp; done)); replace k1_5 : w1.cell? ⟨w.heap.size + 1, 5, none⟩ = some (.int .i64 (s 5)) := (hE.cells _ _ (by first | exact l1 | (simp; done) | (simp; omega))).trans (by first | exact k1_5 | (go_simp; done)); replace l0 : w.heap.size < w1.heap.size := Nat.lt_of_lt_of_le (by first | exact l0 | (simp; done) | (simp; omega)) hE.size; replace l1 : w.heap.size + 1 < w1.heap.size := Nat.lt_of_lt_of_le (by first | exact l1 | (simp; done) | (simp; omega)) hE.size) | (refine wpList_store_new rfl rfl rfl rfl (b := w.heap.size + 2) HR.out (szz _ _ _) (sz37 _) (av_one _ _) ?_; intro w1 hO hN; (try go_simp)))
    exact bodyPost_ret (results37_tmp rfl rfl rfl hN) rfl ⟨rfl, hO.ext (by (repeat' (first | (with_reducible exact Ext.refl _) | (with_reducible assumption) | (with_reducible refine Ext.alloc ?_ _) | (with_reducible refine Ext.drew ?_) | (with_reducible refine Ext.drewN ?_ _) | (with_reducible refine Ext.setCell ?_ ?_ _) | (with_reducible refine Ext.trans ?_ (by assumption)))) <;> (first | (with_reducible assumption) | omega | (simp; done) | (simp; omega))) (by omega)⟩
theorem sCommonTable_ok (n m : Nat) (w : World) : Calls Try.prog 32 #[(.agg #[.int .i64 (rw n 0), .int .i64 (rw n 1), .int .i64 (rw n 2), .int .i64 (rw n 3), .int .i64 (rw n 4), .int .i64 (rw n 5)]), (.agg #[.int .i64 (rw m 0), .int .i64 (rw m 1), .int .i64 (rw m 2), .int .i64 (rw m 3), .int .i64 (rw m 4), .int .i64 (rw m 5)])] w fun e w' => e = .returned (.tuple #[.agg (av 37 (tbI (cm n m) 36)), .bool true]) ∧ Ext w w' := by
  have HT := Lib.hid (fun w => l9Table_n n m w)
  generalize tbI (cm n m) 36 = g at *
  skip
  go_enter Try.func32, Try.ntmps32
  have tk0 := Lib.hid True.intro
  go_wp2_with (first | (refine wpList_value rfl (build37 rfl) ?_; (try go_simp)) | (clear tk0; (go_at_call 75; refine (l2Sheet_n n _).mono ?_; rintro e w1 ⟨rfl, hE⟩; replace HR := Lib.hid ((show Big _ (w.heap.size + 2) 53 37 (fun _ => 0) by first | exact HR.out | exact Big.new37 _ _ (by first | rfl | (simp; done) | (simp; omega)) | exact Big.new _ _ _ _ (by first | rfl | (simp; done) | (simp; omega)) | exact (Big.new _ _ _ _ (by first | rfl | (simp; done) | (simp; omega))).ext ((Ext.refl _).alloc _) | exact ((Big.new _ _ _ _ (by first | rfl | (simp; done) | (simp; omega))).ext ((Ext.refl _).alloc _)).ext ((Ext.refl _).alloc _)).ext hE); replace k0_0 : w1.cell? ⟨w.heap.size, 0, none⟩ = some (.int .i64 (rw n 0)) := (hE.cells _ _ (by first | exact l0 | (simp; done) | (simp; omega))).trans (by first | exact k0_0 | (go_simp; done)); replace k0_1 : w1.cell? ⟨w.heap.size, 1, none⟩ = some (.int .i64 (rw n 1)) := (hE.cells _ _ (by first | exact l0 | (simp; done) | (simp; omega))).trans (by first | exact k0_1 | (go_simp; done)); replace k0_2 : w1.cell? ⟨w.heap.size, 2, none⟩ = some (.int .i64 (rw n 2)) := (hE.cells _ _ (by first | exact l0 | (simp; done) | (simp; omega))).trans (by first | exact k0_2 | (go_simp; done)); replace k0_3 : w1.cell? ⟨w.heap.size, 3, none⟩ = some (.int .i64 (rw n 3)) := (hE.cells _ _ (by first | exact l0 | (simp; done) | (simp; omega))).trans (by first | exact k0_3 | (go_simp; done)); replace k0_4 : w1.cell? ⟨w.heap.size, 4, none⟩ = some (.int .i64 (rw n 4)) := (hE.cells _ _ (by first | exact l0 | (simp; done) | (simp; omega))).trans (by first | exact k0_4 | (go_simp; done)); replace k0_5 : w1.cell? ⟨w.heap.size, 5, none⟩ = some (.int .i64 (rw n 5)) := (hE.cells _ _ (by first | exact l0 | (simp; done) | (simp; omega))).trans (by first | exact k0_5 | (go_simp; done)); replace k1_0 : w1.cell? ⟨w.heap.size + 1, 0, none⟩ = some (.int .i64 (rw m 0)) := (hE.cells _ _ (by first | exact l1 | (simp; done) | (simp; omega))).trans (by first | exact k1_0 | (go_simp; done)); replace k1_1 : w1.cell? ⟨w.heap.size + 1, 1, none⟩ = some (.int .i64 (rw m 1)) := (hE.cells _ _ (by first | exact l1 | (simp; done) | (simp; omega))).trans (by first | exact k1_1 | (go_simp; done)); replace k1_2 : w1.cell? ⟨w.heap.size + 1, 2, none⟩ = some (.int .i64 (rw m 2)) := (hE.cells _ _ (by first | exact l1 | (simp; done) | (simp; omega))).trans (by first | exact k1_2 | (go_simp; done)); replace k1_3 : w1.cell? ⟨w.heap.size + 1, 3, none⟩ = some (.int .i64 (rw m 3)) := (hE.cells _ _ (by first | exact l1 | (simp; done) | (simp; omega))).trans (by first | exact k1_3 | (go_simp; done)); replace k1_4 : w1.cell? ⟨w.heap.size + 1, 4, none⟩ = some (.int .i64 (rw m 4)) := (hE.cells _ _ (by first | exact l1 | (simp; done) | (simp; omega))).trans (by first | exact k1_4 | (go_simp; done)); replace k1_5 : w1.cell? ⟨w.heap.size + 1, 5, none⟩ = some (.int .i64 (rw m 5)) := (hE.cells _ _ (by first | exact l1 | (simp; done) | (simp; omega))).trans (by first | exact k1_5 | (go_simp; done)); replace l0 : w.heap.size < w1.heap.size := Nat.lt_of_lt_of_le (by first | exact l0 | (simp; done) | (simp; omega)) hE.size; replace l1 : w.heap.size + 1 < w1.heap.size := Nat.lt_of_lt_of_le (by first | exact l1 | (simp; done) | (simp; omega)) hE.size)) | (go_at_call 75; refine (l2Sheet_n m _).mono ?_; rintro e w1 ⟨rfl, hE⟩; replace HR := Lib.hid ((show Big _ (w.heap.size + 2) 53 37 (fun _ => 0) by first | exact HR.out | exact Big.new37 _ _ (by first | rfl | (simp; done) | (simp; omega)) | exact Big.new _ _ _ _ (by first | rfl | (simp; done) | (simp; omega)) | exact (Big.new _ _ _ _ (by first | rfl | (simp; done) | (simp; omega))).ext ((Ext.refl _).alloc _) | exact ((Big.new _ _ _ _ (by first | rfl | (simp; done) | (simp; omega))).ext ((Ext.refl _).alloc _)).ext ((Ext.refl _).alloc _)).ext hE); replace k0_0 : w1.cell? ⟨w.heap.size, 0, none⟩ = some (.int .i64 (rw n 0)) := (hE.cells _ _ (by first | exact l0 | (simp; done) | (simp; omega))).trans (by first | exact k0_0 | (go_simp; done)); replace k0_1 : w1.cell? ⟨w.heap.size, 1, none⟩ = some (.int .i64 (rw n 1)) := (hE.cells _ _ (by first | exact l0 | (simp; done) | (simp; omega))).trans (by first | exact k0_1 | (go_simp; done)); replace k0_2 : w1.cell? ⟨w.heap.size, 2, none⟩ = some (.int .i64 (rw n 2)) := (hE.cells _ _ (by first | exact l0 | (simp; done) | (simp; omega))).trans (by first | exact k0_2 | (go_simp; done)); replace k0_3 : w1.cell? ⟨w.heap.size, 3, none⟩ = some (.int .i64 (rw n 3)) := (hE.cells _ _ (by first | exact l0 | (simp; done) | (simp; omega))).trans (by first | exact k0_3 | (go_simp; done)); replace k0_4 : w1.cell? ⟨w.heap.size, 4, none⟩ = some (.int .i64 (rw n 4)) := (hE.cells _ _ (by first | exact l0 | (simp; done) | (simp; omega))).trans (by first | exact k0_4 | (go_simp; done)); replace k0_5 : w1.cell? ⟨w.heap.size, 5, none⟩ = some (.int .i64 (rw n 5)) := (hE.cells _ _ (by first | exact l0 | (simp; done) | (simp; omega))).trans (by first | exact k0_5 | (go_simp; done)); replace k1_0 : w1.cell? ⟨w.heap.size + 1, 0, none⟩ = some (.int .i64 (rw m 0)) := (hE.cells _ _ (by first | exact l1 | (simp; done) | (simp; omega))).trans (by first | exact k1_0 | (go_simp; done)); replace k1_1 : w1.cell? ⟨w.heap.size + 1, 1, none⟩ = some (.int .i64 (rw m 1)) := (hE.cells _ _ (by first | exact l1 | (simp; done) | (simp; omega))).trans (by first | exact k1_1 | (go_simp; done)); replace k1_2 : w1.cell? ⟨w.heap.size + 1, 2, none⟩ = some (.int .i64 (rw m 2)) := (hE.cells _ _ (by first | exact l1 | (simp; done) | (simp; omega))).trans (by first | exact k1_2 | (go_simp; done)); replace k1_3 : w1.cell? ⟨w.heap.size + 1, 3, none⟩ = some (.int .i64 (rw m 3)) := (hE.cells _ _ (by first | exact l1 | (simp; done) | (simp; omega))).trans (by first | exact k1_3 | (go_simp; done)); replace k1_4 : w1.cell? ⟨w.heap.size + 1, 4, none⟩ = some (.int .i64 (rw m 4)) := (hE.cells _ _ (by first | exact l1 | (simp; done) | (simp; omega))).trans (by first | exact k1_4 | (go_simp; done)); replace k1_5 : w1.cell? ⟨w.heap.size + 1, 5, none⟩ = some (.int .i64 (rw m 5)) := (hE.cells _ _ (by first | exact l1 | (simp; done) | (simp; omega))).trans (by first | exact k1_5 | (go_simp; done)); replace l0 : w.heap.size < w1.heap.size := Nat.lt_of_lt_of_le (by first | exact l0 | (simp; done) | (simp; omega)) hE.size; replace l1 : w.heap.size + 1 < w1.heap.size := Nat.lt_of_lt_of_le (by first | exact l1 | (simp; done) | (simp; omega)) hE.size) | (go_at_call 100; refine (HT.out _).mono ?_; rintro e w1 ⟨rfl, hE⟩; replace HR := Lib.hid ((show Big _ (w.heap.size + 2) 53 37 (fun _ => 0) by first | exact HR.out | exact Big.new37 _ _ (by first | rfl | (simp; done) | (simp; omega)) | exact Big.new _ _ _ _ (by first | rfl | (simp; done) | (simp; omega)) | exact (Big.new _ _ _ _ (by first | rfl | (simp; done) | (simp; omega))).ext ((Ext.refl _).alloc _) | exact ((Big.new _ _ _ _ (by first | rfl | (simp; done) | (simp; omega))).ext ((Ext.refl _).alloc _)).ext ((Ext.refl _).alloc _)).ext hE); replace k0_0 : w1.cell? ⟨w.heap.size, 0, none⟩ = some (.int .i64 (rw n 0)) := (hE.cells _ _ (by first | exact l0 | (simp; done) | (simp; omega))).trans (by first | exact k0_0 | (go_simp; done)); replace k0_1 : w1.cell? ⟨w.heap.size, 1, none⟩ = some (.int .i64 (rw n 1)) := (hE.cells _ _ (by first | exact l0 | (simp; done) | (simp; omega))).trans (by first | exact k0_1 | (go_simp; done)); replace k0_2 : w1.cell? ⟨w.heap.size, 2, none⟩ = some (.int .i64 (rw n 2)) := (hE.cells _ _ (by first | exact l0 | (simp; done) | (simp; omega))).trans (by first | exact k0_2 | (go_simp; done)); replace k0_3 : w1.cell? ⟨w.heap.size, 3, none⟩ = some (.int .i64 (rw n 3)) := (hE.cells _ _ (by first | exact l0 | (simp; done) | (simp; omega))).trans (by first | exact k0_3 | (go_simp; done)); replace k0_4 : w1.cell? ⟨w.heap.size, 4, none⟩ = some (.int .i64 (rw n 4)) := (hE.cells _ _ (by first | exact l0 | (simp; done) | (simp; omega))).trans (by first | exact k0_4 | (go_simp; done)); replace k0_5 : w1.cell? ⟨w.heap.size, 5, none⟩ = some (.int .i64 (rw n 5)) := (hE.cells _ _ (by first | exact l0 | (simp; done) | (simp; omega))).trans (by first | exact k0_5 | (go_simp; done)); replace k1_0 : w1.cell? ⟨w.heap.size + 1, 0, none⟩ = some (.int .i64 (rw m 0)) := (hE.cells _ _ (by first | exact l1 | (simp; done) | (simp; omega))).trans (by first | exact k1_0 | (go_simp; done)); replace k1_1 : w1.cell? ⟨w.heap.size + 1, 1, none⟩ = some (.int .i64 (rw m 1)) := (hE.cells _ _ (by first | exact l1 | (simp; done) | (simp; omega))).trans (by first | exact k1_1 | (go_simp; done)); replace k1_2 : w1.cell? ⟨w.heap.size + 1, 2, none⟩ = some (.int .i64 (rw m 2)) := (hE.cells _ _ (by first | exact l1 | (simp; done) | (simp; omega))).trans (by first | exact k1_2 | (go_simp; done)); replace k1_3 : w1.cell? ⟨w.heap.size + 1, 3, none⟩ = some (.int .i64 (rw m 3)) := (hE.cells _ _ (by first | exact l1 | (simp; done) | (simp; omega))).trans (by first | exact k1_3 | (go_simp; done)); replace k1_4 : w1.cell? ⟨w.heap.size + 1, 4, none⟩ = some (.int .i64 (rw m 4)) := (hE.cells _ _ (by first | exact l1 | (simp; done) | (simp; omega))).trans (by first | exact k1_4 | (go_simp; done)); replace k1_5 : w1.cell? ⟨w.heap.size + 1, 5, none⟩ = some (.int .i64 (rw m 5)) := (hE.cells _ _ (by first | exact l1 | (simp; done) | (simp; omega))).trans (by first | exact k1_5 | (go_simp; done)); replace l0 : w.heap.size < w1.heap.size := Nat.lt_of_lt_of_le (by first | exact l0 | (simp; done) | (simp; omega)) hE.size; replace l1 : w.heap.size + 1 < w1.heap.size := Nat.lt_of_lt_of_le (by first | exact l1 | (simp; done) | (simp; omega)) hE.size) | (refine wpList_store_new rfl rfl rfl rfl (b := w.heap.size + 2) HR.out (szz _ _ _) (sz37 _) (av_one _ _) ?_; intro w1 hO hN; (try go_simp)))
  exact bodyPost_ret (results37_tmp rfl rfl rfl hN) rfl ⟨rfl, hO.ext (by (repeat' (first | (with_reducible exact Ext.refl _) | (with_reducible assumption) | (with_reducible refine Ext.alloc ?_ _) | (with_reducible refine Ext.drew ?_) | (with_reducible refine Ext.drewN ?_ _) | (with_reducible refine Ext.setCell ?_ ?_ _) | (with_reducible refine Ext.trans ?_ (by assumption)))) <;> (first | (with_reducible assumption) | omega | (simp; done) | (simp; omega))) (by omega)⟩
theorem CommonTable_bad (r s : Nat → Int) (h : (vs r && vs s) = false) (w : World) : Calls Try.prog 31 #[(.agg #[.int .i64 (r 0), .int .i64 (r 1), .int .i64 (r 2), .int .i64 (r 3), .int .i64 (r 4), .int .i64 (r 5)]), (.agg #[.int .i64 (s 0), .int .i64 (s 1), .int .i64 (s 2), .int .i64 (s 3), .int .i64 (s 4), .int .i64 (s 5)])] w fun e w' => e = .returned (.tuple #[.agg (av 37 (fun _ => 0)), .bool false]) ∧ Ext w w' := by
  have HT2 := Lib.hid (fun w => twoSets_is r s _ _ rfl rfl w)
  rw [h] at HT2
  generalize setN r = a at *
  generalize setN s = b at *
  clear h
  skip
  go_enter Try.func31, Try.ntmps31
  go_wp2_with (first | (refine wpList_value rfl (build37 rfl) ?_; (try go_simp)) | (refine wpList_alloc_av rfl (makes37 rfl) ?_; (try go_simp)) | ((refine wpList_store_new rfl rfl rfl rfl (b := w.heap.size + 3) (Big.new _ _ 37 _ (by simp)) (szz _ _ _) (sz37 _) (av_one _ _) ?_; intro w1 hO hN; (try go_simp)); have hxw : Ext w w1 := hO.ext (by (repeat' (first | (with_reducible exact Ext.refl _) | (with_reducible assumption) | (with_reducible refine Ext.alloc ?_ _) | (with_reducible refine Ext.drew ?_) | (with_reducible refine Ext.drewN ?_ _) | (with_reducible refine Ext.setCell ?_ ?_ _) | (with_reducible refine Ext.trans ?_ (by assumption)))) <;> (first | (with_reducible assumption) | omega | (simp; done) | (simp; omega))) (by omega); have HA := Lib.hid (((((Arr.new w r 26 rfl).alloc _ (by simp)).alloc _ (by first | (simp; done) | (simp; omega))).alloc _ (by first | (simp; done) | (simp; omega))).only hO (by omega)); have HB := Lib.hid ((((Arr.new (w.alloc (.cells #[.int .i64 (r 0), .int .i64 (r 1), .int .i64 (r 2), .int .i64 (r 3), .int .i64 (r 4), .int .i64 (r 5)] 26)) s 26 (b := w.heap.size + 1) (by simp)).alloc _ (by simp)).alloc _ (by first | (simp; done) | (simp; omega))).only hO (by omega)); have HR := Lib.hid (((Big.new37 ((w.alloc (.cells #[.int .i64 (r 0), .int .i64 (r 1), .int .i64 (r 2), .int .i64 (r 3), .int .i64 (r 4), .int .i64 (r 5)] 26)).alloc (.cells #[.int .i64 (s 0), .int .i64 (s 1), .int .i64 (s 2), .int .i64 (s 3), .int .i64 (s 4), .int .i64 (s 5)] 26)) 53 (b := w.heap.size + 2) (by simp)).ext ((Ext.refl _).alloc _)).only hO (by omega)); have HT := Lib.hid (show Big w1 (w.heap.size + 3) 53 37 (fun _ => 0) from hN); clear hO hN; obtain ⟨⟨c0, c1, c2, c3, c4, c5⟩, _⟩ := HA.out.all; obtain ⟨⟨d0, d1, d2, d3, d4, d5⟩, _⟩ := HB.out.all) | (go_at_call 84; refine (HT2.out _).mono ?_; rintro e w2 ⟨rfl, hE⟩; replace HR := Lib.hid (HR.out.ext hE); replace HT := Lib.hid (HT.out.ext hE)) | (refine wpList_load_row rfl 53 (.tmp 6) rfl _ rfl _ _ _ _ HT.out Try.underlying53 rfl (sz37 _) ?_; (try go_simp)) | (refine wpList_store_new rfl rfl rfl rfl (b := w.heap.size + 2) HR.out (szz _ _ _) (sz37 _) (av_one _ _) ?_; intro w1 hO hN; (try go_simp)))
  exact bodyPost_ret (results37_tmp rfl rfl rfl hN) rfl ⟨rfl, hO.ext (hxw.trans hE) (by omega)⟩
theorem CommonTable_ok (n m : Nat) (hn : n < 68719476736) (hm : m < 68719476736) (w : World) : Calls Try.prog 31 #[(.agg #[.int .i64 (rw n 0), .int .i64 (rw n 1), .int .i64 (rw n 2), .int .i64 (rw n 3), .int .i64 (rw n 4), .int .i64 (rw n 5)]), (.agg #[.int .i64 (rw m 0), .int .i64 (rw m 1), .int .i64 (rw m 2), .int .i64 (rw m 3), .int .i64 (rw m 4), .int .i64 (rw m 5)])] w fun e w' => e = .returned (.tuple #[.agg (av 37 (tbI (cm n m) 36)), .bool true]) ∧ Ext w w' := by
  skip
  go_enter Try.func31, Try.ntmps31
  go_wp2_with (first | (refine wpList_value rfl (build37 rfl) ?_; (try go_simp)) | (refine wpList_alloc_av rfl (makes37 rfl) ?_; (try go_simp)) | ((refine wpList_store_new rfl rfl rfl rfl (b := w.heap.size + 3) (Big.new _ _ 37 _ (by simp)) (szz _ _ _) (sz37 _) (av_one _ _) ?_; intro w1 hO hN; (try go_simp)); have hxw : Ext w w1 := hO.ext (by (repeat' (first | (with_reducible exact Ext.refl _) | (with_reducible assumption) | (with_reducible refine Ext.alloc ?_ _) | (with_reducible refine Ext.drew ?_) | (with_reducible refine Ext.drewN ?_ _) | (with_reducible refine Ext.setCell ?_ ?_ _) | (with_reducible refine Ext.trans ?_ (by assumption)))) <;> (first | (with_reducible assumption) | omega | (simp; done) | (simp; omega))) (by omega); have HA := Lib.hid (((((Arr.new w (rw n) 26 rfl).alloc _ (by simp)).alloc _ (by first | (simp; done) | (simp; omega))).alloc _ (by first | (simp; done) | (simp; omega))).only hO (by omega)); have HB := Lib.hid ((((Arr.new (w.alloc (.cells #[.int .i64 (rw n 0), .int .i64 (rw n 1), .int .i64 (rw n 2), .int .i64 (rw n 3), .int .i64 (rw n 4), .int .i64 (rw n 5)] 26)) (rw m) 26 (b := w.heap.size + 1) (by simp)).alloc _ (by simp)).alloc _ (by first | (simp; done) | (simp; omega))).only hO (by omega)); have HR := Lib.hid (((Big.new37 ((w.alloc (.cells #[.int .i64 (rw n 0), .int .i64 (rw n 1), .int .i64 (rw n 2), .int .i64 (rw n 3), .int .i64 (rw n 4), .int .i64 (rw n 5)] 26)).alloc (.cells #[.int .i64 (rw m 0), .int .i64 (rw m 1), .int .i64 (rw m 2), .int .i64 (rw m 3), .int .i64 (rw m 4), .int .i64 (rw m 5)] 26)) 53 (b := w.heap.size + 2) (by simp)).ext ((Ext.refl _).alloc _)).only hO (by omega)); have HT := Lib.hid (show Big w1 (w.heap.size + 3) 53 37 (fun _ => 0) from hN); clear hO hN; obtain ⟨⟨c0, c1, c2, c3, c4, c5⟩, _⟩ := HA.out.all; obtain ⟨⟨d0, d1, d2, d3, d4, d5⟩, _⟩ := HB.out.all) | (go_at_call 84; refine (twoSets_n n m hn hm _).mono ?_; rintro e w2 ⟨rfl, hE⟩; replace HR := Lib.hid (HR.out.ext hE); replace HT := Lib.hid (HT.out.ext hE)))
  replace hxw := hxw.trans hE
  go_loopw [22] (fun i wr => ∃ k : Nat, k ≤ 36 ∧ i = .int .i64 k ∧ Ext w wr ∧ Big wr (w.heap.size + 2) 53 37 (fun _ => 0) ∧ Big wr (w.heap.size + 3) 53 37 (tbI (cm n m) k)) (fun i _ => 36 - (intOf i).toNat)
  case atStart => exact ⟨0, Nat.zero_le _, rfl, hxw, HR.out, HT.out.congr fun i _ => (tbI_0 _ _).symm⟩
  case round =>
    obtain ⟨k, hk, rfl, hx, hr, ht⟩ := hrel
    obtain ⟨wo, rfl⟩ : ∃ wo : World, wo = wr := ⟨_, rfl⟩
    clear HA HB HR HT hE c0 c1 c2 c3 c4 c5 d0 d1 d2 d3 d4 d5
    have HR := Lib.hid hr
    have HT := Lib.hid ht
    clear hr ht
    by_cases hlt : k < 36
    · have H1 := Lib.hid (fun w => pressed_any m k hm hlt w)
      obtain ⟨z, hzz⟩ : ∃ z, z = sh m (k % 6) (k / 6) := ⟨_, rfl⟩
      have hzl : z < 68719476736 := hzz ▸ sh_lt _ _ _
      have hF : cm n m k = cnt (n &&& z) := by rw [hzz]; rfl
      rw [← hzz] at H1
      have e64 := and64 hn hzl
      have H3 := Lib.hid (size_n (n &&& z) (and36 _ hn))
      rw [← hF] at H3
      obtain ⟨C, hC⟩ : ∃ C, C = cm n m k := ⟨_, rfl⟩
      have hcm : C ≤ 36 := hC ▸ cm_le n m _
      rw [← hC] at H3
      have HC := Lib.hid hC
      clear hF hC hzz
      obtain ⟨b0, b1⟩ := tbI_bd (cm n m) k C (by omega)
      go_wp2_with (first | ((go_at_call 97; refine (H1.out _).mono ?_; rintro e w1 ⟨rfl, hE⟩); have HT1 := Lib.hid (HT.out.ext hE); have ft := HT1.out.free C; have ct1 := HT1.out.cell (j := C) (by omega)) | (go_at_call 99; refine (H3.out _).mono ?_; rintro e w' ⟨rfl, rfl⟩))
      refine ⟨⟨k + 1, by omega, by go_num, (by (repeat' (first | (with_reducible exact Ext.refl _) | (with_reducible assumption) | (with_reducible refine Ext.alloc ?_ _) | (with_reducible refine Ext.drew ?_) | (with_reducible refine Ext.drewN ?_ _) | (with_reducible refine Ext.setCell ?_ ?_ _) | (with_reducible refine Ext.trans ?_ (by assumption)))) <;> (first | (with_reducible assumption) | omega | (simp; done) | (simp; omega))), (HR.out.ext hE).far (by dsimp only; omega) _, (HT1.out.set C _).congr fun i _ => tb_set (cm n m) k C HC.out i⟩, by simp [intOf]; omega⟩
    · obtain rfl : k = 36 := by omega
      go_wp2_with (first | (refine wpList_load_row rfl 53 (.tmp 6) rfl _ rfl _ _ _ _ HT.out Try.underlying53 rfl (sz37 _) ?_; (try go_simp)) | (refine wpList_store_new rfl rfl rfl rfl (b := w.heap.size + 2) HR.out (szz _ _ _) (sz37 _) (av_one _ _) ?_; intro w1 hO hN; (try go_simp)))
      exact bodyPost_ret (results37_tmp rfl rfl rfl hN) rfl ⟨rfl, hO.ext hx (by omega)⟩
end Go.Proofs.Ytlifhoajamnehaa
set_option linter.unusedVariables false
set_option linter.unusedSimpArgs false
set_option maxRecDepth 100000
set_option maxHeartbeats 1000000
namespace Go.Proofs.Ytlifhoajamnehaa
open Go Go.RowKit
end Go.Proofs.Ytlifhoajamnehaa
