/- Nq Kp Kp2 DrawW: contracts of functions, and lemmas, for this seat. Conditions: as each states. -/
import Derived.Test.YtlifhoajamnehaaCo12
import Derived.Test.YtlifhoajamnehaaCo16
import Derived.Test.YtlifhoajamnehaaCo01
import Derived.Test.YtlifhoajamnehaaCo11
set_option linter.unusedVariables false
set_option linter.unusedSimpArgs false
set_option maxRecDepth 100000
set_option maxHeartbeats 1000000
namespace Go.Proofs.Ytlifhoajamnehaa
open Go Go.RowKit Instr
theorem part_av (g : Nat → Int) (i : Nat) (hi : i < 37) (w : World) : (part 3 (av 37 g) (i * 1)).run Try.prog w = .ok (.int .i64 (g i)) w := by
  have ha : ∀ w : World, (isAgg 3).run Try.prog w = .ok false w := fun w => by kernel_rfl
  unfold part
  simp only [Sem.run_bind, ha, Result.andThen_ok]
  simp only [Bool.false_eq_true, if_false, Nat.mul_one, av_get hi]
  rfl
theorem items37 (g : Nat → Int) (w : World) : ∀ is : List Nat, (∀ i ∈ is, i < 37) → (Op.eqItems 9999 3 1 (av 37 g) (av 37 g) is).run Try.prog w = .ok true w
  | [], _ => rfl
  | i :: is, h => by
    rw [Op.eqItems]
    simp only [Sem.run_bind, part_av g i (h i (List.mem_cons_self ..)), Result.andThen_ok]
    rw [run_equalIn_int w 9998 3 .i64 .i64 (g i) (g i) Try.underlying3]
    simp only [Result.andThen_ok, beq_self_eq_true, Bool.not_true, Bool.false_eq_true, if_false]
    exact items37 g w is fun j hj => h j (List.mem_cons_of_mem _ hj)
theorem neq37_is (g : Nat → Int) : ∀ w, (binOp .neq 53 (.agg (av 37 g)) (.agg (av 37 g))).run Try.prog w = .ok (.bool false) w := fun w => by
  rw [run_neq_struct, run_equalIn_array w 9999 _ _ Try.underlying53 (i := (Try.prog.info? 3).getD default) (by kernel_rfl), show Try.prog.cellsOf 3 = 1 by kernel_rfl, items37 g w _ fun i hi => List.mem_range.1 hi]
  rfl
end Go.Proofs.Ytlifhoajamnehaa
set_option linter.unusedVariables false
set_option linter.unusedSimpArgs false
set_option maxRecDepth 100000
set_option maxHeartbeats 1000000
namespace Go.Proofs.Ytlifhoajamnehaa
open Go Go.RowKit
/-! what a law keeps of its own sheets from call to call -/
def Kp (w : World) (b : Nat) (g : Nat → Int) : Prop := Arr w b g ∧ b < w.heap.size
theorem Kp.ext {w w' : World} {b : Nat} {g : Nat → Int} (h : Kp w b g) (hx : Ext w w') : Kp w' b g := ⟨h.1.ext hx h.2, Nat.lt_of_lt_of_le h.2 hx.size⟩
theorem Kp.c6 {w : World} {b : Nat} {g : Nat → Int} (h : Kp w b g) : b < w.heap.size ∧ w.cell? ⟨b, 0, none⟩ = some (.int .i64 (g 0)) ∧ w.cell? ⟨b, 1, none⟩ = some (.int .i64 (g 1)) ∧ w.cell? ⟨b, 2, none⟩ = some (.int .i64 (g 2)) ∧ w.cell? ⟨b, 3, none⟩ = some (.int .i64 (g 3)) ∧ w.cell? ⟨b, 4, none⟩ = some (.int .i64 (g 4)) ∧ w.cell? ⟨b, 5, none⟩ = some (.int .i64 (g 5)) :=
  ⟨h.2, h.1.all.1⟩
theorem Kp.new1 {w w' : World} {T : TypeId} (g : Nat → Int) (h : Ext (w.alloc (.cells #[.int .i64 (g 0), .int .i64 (g 1), .int .i64 (g 2), .int .i64 (g 3), .int .i64 (g 4), .int .i64 (g 5)] T)) w') : Kp w' w.heap.size g :=
  Kp.ext (w := w.alloc (.cells #[.int .i64 (g 0), .int .i64 (g 1), .int .i64 (g 2), .int .i64 (g 3), .int .i64 (g 4), .int .i64 (g 5)] T)) ⟨Arr.new w g T rfl, by simp⟩ h
theorem Kp.new21 {w w' : World} {T : TypeId} {o : Obj} (g : Nat → Int) (h : Ext ((w.alloc (.cells #[.int .i64 (g 0), .int .i64 (g 1), .int .i64 (g 2), .int .i64 (g 3), .int .i64 (g 4), .int .i64 (g 5)] T)).alloc o) w') : Kp w' w.heap.size g := Kp.new1 g (((Ext.refl _).alloc o).trans h)
theorem Kp.new22 {w w' : World} {T : TypeId} {o : Obj} (g : Nat → Int) (h : Ext ((w.alloc o).alloc (.cells #[.int .i64 (g 0), .int .i64 (g 1), .int .i64 (g 2), .int .i64 (g 3), .int .i64 (g 4), .int .i64 (g 5)] T)) w') : Kp w' (w.heap.size + 1) g := by
  have := Kp.new1 g h
  simp at this
  exact this
theorem Ext.link0 {a w w' : World} (h : Ext a w) (k : Ext w w') : Ext w w' := k
theorem Ext.link1 {a w w' : World} {o : Obj} (h : Ext a w) (k : Ext (w.alloc o) w') : Ext w w' := ((Ext.refl w).alloc o).trans k
theorem Ext.link2 {a w w' : World} {o p : Obj} (h : Ext a w) (k : Ext ((w.alloc o).alloc p) w') : Ext w w' := (((Ext.refl w).alloc o).alloc p).trans k
theorem Ext.link3 {a w w' : World} {o p q : Obj} (h : Ext a w) (k : Ext (((w.alloc o).alloc p).alloc q) w') : Ext w w' := ((((Ext.refl w).alloc o).alloc p).alloc q).trans k
end Go.Proofs.Ytlifhoajamnehaa
set_option linter.unusedVariables false
set_option linter.unusedSimpArgs false
set_option maxRecDepth 100000
set_option maxHeartbeats 1000000
namespace Go.Proofs.Ytlifhoajamnehaa
open Go Go.RowKit
/-! what a law keeps of its own blocks of two numbers, and of its tables -/
def Kp2 (w : World) (b : Nat) (x y : Int) : Prop := b < w.heap.size ∧ w.cell? ⟨b, 0, none⟩ = some (.int .i64 x) ∧ w.cell? ⟨b, 1, none⟩ = some (.int .i64 y)
theorem Kp2.ext {w w' : World} {b : Nat} {x y : Int} (h : Kp2 w b x y) (hx : Ext w w') : Kp2 w' b x y :=
  ⟨Nat.lt_of_lt_of_le h.1 hx.size, (hx.cells _ _ h.1).trans h.2.1, (hx.cells _ _ h.1).trans h.2.2⟩
theorem Kp2.c6 {w : World} {b : Nat} {x y : Int} (h : Kp2 w b x y) : b < w.heap.size ∧ w.cell? ⟨b, 0, none⟩ = some (.int .i64 x) ∧ w.cell? ⟨b, 1, none⟩ = some (.int .i64 y) := h
theorem Kp2.new1 {w w' : World} {T : TypeId} (x y : Int) (h : Ext (w.alloc (.cells #[.int .i64 x, .int .i64 y] T)) w') : Kp2 w' w.heap.size x y := by
  refine Kp2.ext (w := w.alloc (.cells #[.int .i64 x, .int .i64 y] T)) ?_ h
  have hh := heap_alloc_new w (.cells #[.int .i64 x, .int .i64 y] T)
  exact ⟨by simp, cell_of_row _ _ 0 _ T _ hh, cell_of_row _ _ 1 _ T _ hh⟩
def KpB (w : World) (b : Nat) (g : Nat → Int) : Prop := Big w b 53 37 g
theorem KpB.mk {w : World} {b : Nat} {g : Nat → Int} (h : Big w b 53 37 g) : KpB w b g := h
theorem KpB.ext {w w' : World} {b : Nat} {g : Nat → Int} (h : KpB w b g) (hx : Ext w w') : KpB w' b g := Big.ext h hx
theorem KpB.c6 {w : World} {b : Nat} {g : Nat → Int} (h : KpB w b g) : b < w.heap.size := Big.lt h
end Go.Proofs.Ytlifhoajamnehaa
set_option linter.unusedVariables false
set_option linter.unusedSimpArgs false
set_option maxRecDepth 100000
set_option maxHeartbeats 4000000
namespace Go.Proofs.Ytlifhoajamnehaa
open Go Go.RowKit Instr
theorem drawSpreadSheet_n (v : Value) (n : Nat) (w : World) (hv : Byt w w.heap.size v n) : Calls Try.prog 98 #[v] w fun e w' => ∃ r s : Nat → Int, Shy r ∧ Shy s ∧ e = .returned (.tuple #[(.agg #[.int .i64 (r 0), .int .i64 (r 1), .int .i64 (r 2), .int .i64 (r 3), .int .i64 (r 4), .int .i64 (r 5)]), (.agg #[.int .i64 (s 0), .int .i64 (s 1), .int .i64 (s 2), .int .i64 (s 3), .int .i64 (s 4), .int .i64 (s 5)])]) ∧ Ext w w' := by
  have HX := Lib.hid (((Ext.refl w).alloc (.cells #[.int .i64 0, .int .i64 0, .int .i64 0, .int .i64 0, .int .i64 0, .int .i64 0] 26)).alloc (.cells #[.int .i64 0, .int .i64 0, .int .i64 0, .int .i64 0, .int .i64 0, .int .i64 0] 26))
  have HV := Lib.hid (byt_mono (byt_ext hv (Nat.le_refl _) HX.out) HX.out.size)
  have HC := Lib.hid (cur_new _ v n 79 HV.out)
  have hsz : ((w.alloc (.cells #[.int .i64 0, .int .i64 0, .int .i64 0, .int .i64 0, .int .i64 0, .int .i64 0] 26)).alloc (.cells #[.int .i64 0, .int .i64 0, .int .i64 0, .int .i64 0, .int .i64 0, .int .i64 0] 26)).heap.size = w.heap.size + 1 + 1 := by simp
  rw [hsz] at HC
  have HO := Lib.hid (HX.out.off (fun k => k = w.heap.size + 1 + 1))
  have HR := Lib.hid ((Arr.new0 w 26 rfl).alloc (.cells #[.int .i64 0, .int .i64 0, .int .i64 0, .int .i64 0, .int .i64 0, .int .i64 0] 26) (by simp))
  have HS := Lib.hid (Arr.new0 (w.alloc (.cells #[.int .i64 0, .int .i64 0, .int .i64 0, .int .i64 0, .int .i64 0, .int .i64 0] 26)) 26 (b := w.heap.size + 1) (by simp))
  have lHR : w.heap.size < ((w.alloc (.cells #[.int .i64 0, .int .i64 0, .int .i64 0, .int .i64 0, .int .i64 0, .int .i64 0] 26)).alloc (.cells #[.int .i64 0, .int .i64 0, .int .i64 0, .int .i64 0, .int .i64 0, .int .i64 0] 26)).heap.size := by simp; omega
  have lHS : w.heap.size + 1 < ((w.alloc (.cells #[.int .i64 0, .int .i64 0, .int .i64 0, .int .i64 0, .int .i64 0, .int .i64 0] 26)).alloc (.cells #[.int .i64 0, .int .i64 0, .int .i64 0, .int .i64 0, .int .i64 0, .int .i64 0] 26)).heap.size := by simp
  have nHR : ¬ (w.heap.size = w.heap.size + 1 + 1) := by omega
  have nHS : ¬ (w.heap.size + 1 = w.heap.size + 1 + 1) := by omega
  obtain ⟨ao, cap, rfl, _⟩ := hv
  clear hsz HV HX
  skip
  go_enter Try.func98, Try.ntmps98
  repeat' (first | (go_at_call 145; refine (spread5_n (w.heap.size + 1 + 1) 0 (by omega) _ (by first | exact HC.out | exact cur_ext HC.out ((Ext.refl _).alloc _) | exact cur_ext HC.out (((Ext.refl _).alloc _).alloc _))).mono ?_; rintro e w1 ⟨r, s, hr, hs, rfl, hc, hO⟩; replace HC := Lib.hid hc; clear hc; replace HR := Lib.hid (Arr.off (by first | exact HR.out | exact Arr.alloc HR.out _ lHR) hO (by first | exact lHR | (simp; done) | (simp; omega)) nHR); replace lHR := Nat.lt_of_lt_of_le lHR (Nat.le_trans (by first | exact Nat.le_refl _ | (simp; done) | (simp; omega)) hO.size); (try clear hrd0 hrd1 hrd2 hrd3 hrd4 hrd5 hrf0 hrf1 hrf2 hrf3 hrf4 hrf5); obtain ⟨⟨hrd0, hrd1, hrd2, hrd3, hrd4, hrd5⟩, hrf0, hrf1, hrf2, hrf3, hrf4, hrf5⟩ := HR.out.all; replace HS := Lib.hid (Arr.off (by first | exact HS.out | exact Arr.alloc HS.out _ lHS) hO (by first | exact lHS | (simp; done) | (simp; omega)) nHS); replace lHS := Nat.lt_of_lt_of_le lHS (Nat.le_trans (by first | exact Nat.le_refl _ | (simp; done) | (simp; omega)) hO.size); (try clear hsd0 hsd1 hsd2 hsd3 hsd4 hsd5 hsf0 hsf1 hsf2 hsf3 hsf4 hsf5); obtain ⟨⟨hsd0, hsd1, hsd2, hsd3, hsd4, hsd5⟩, hsf0, hsf1, hsf2, hsf3, hsf4, hsf5⟩ := HS.out.all; replace HO := Lib.hid (Off.trans (by first | exact HO.out | exact HO.out.trans (((Ext.refl _).alloc _).off _) | exact HO.out.trans ((((Ext.refl _).alloc _).alloc _).off _)) hO); clear hO) | go_skip | go_guarded | go_step | go_upon | go_values | (simp only []))
  obtain ⟨o1, o2, o3⟩ := two_out HR.out HS.out (by omega) HO.out (Nat.le_refl _) (by omega) r s
  exact bodyPost_ret (ret_cells2 rfl rfl rfl (load_sheet o1) (load_sheet o2)) rfl ⟨r, s, hr, hs, rfl, Off.ext (Ext.refl w) o3 (fun k hk => by omega)⟩
theorem dDrawCommonTable_n (v : Value) (n : Nat) (w : World) (hv : Byt w w.heap.size v n) : Calls Try.prog 30 #[v] w fun e w' => ∃ r s : Nat → Int, Shy r ∧ Shy s ∧ e = .returned (.tuple #[(.agg #[.int .i64 (r 0), .int .i64 (r 1), .int .i64 (r 2), .int .i64 (r 3), .int .i64 (r 4), .int .i64 (r 5)]), (.agg #[.int .i64 (s 0), .int .i64 (s 1), .int .i64 (s 2), .int .i64 (s 3), .int .i64 (s 4), .int .i64 (s 5)])]) ∧ Ext w w' := by
  have HX := Lib.hid (((Ext.refl w).alloc (.cells #[.int .i64 0, .int .i64 0, .int .i64 0, .int .i64 0, .int .i64 0, .int .i64 0] 26)).alloc (.cells #[.int .i64 0, .int .i64 0, .int .i64 0, .int .i64 0, .int .i64 0, .int .i64 0] 26))
  have HV := Lib.hid (byt_mono (byt_ext hv (Nat.le_refl _) HX.out) HX.out.size)
  have HR := Lib.hid ((Arr.new0 w 26 rfl).alloc (.cells #[.int .i64 0, .int .i64 0, .int .i64 0, .int .i64 0, .int .i64 0, .int .i64 0] 26) (by simp))
  have HS := Lib.hid (Arr.new0 (w.alloc (.cells #[.int .i64 0, .int .i64 0, .int .i64 0, .int .i64 0, .int .i64 0, .int .i64 0] 26)) 26 (b := w.heap.size + 1) (by simp))
  have lHR : w.heap.size < ((w.alloc (.cells #[.int .i64 0, .int .i64 0, .int .i64 0, .int .i64 0, .int .i64 0, .int .i64 0] 26)).alloc (.cells #[.int .i64 0, .int .i64 0, .int .i64 0, .int .i64 0, .int .i64 0, .int .i64 0] 26)).heap.size := by simp; omega
  have lHS : w.heap.size + 1 < ((w.alloc (.cells #[.int .i64 0, .int .i64 0, .int .i64 0, .int .i64 0, .int .i64 0, .int .i64 0] 26)).alloc (.cells #[.int .i64 0, .int .i64 0, .int .i64 0, .int .i64 0, .int .i64 0, .int .i64 0] 26)).heap.size := by simp
  obtain ⟨ao, cap, rfl, _⟩ := hv
  go_enter Try.func30, Try.ntmps30
  repeat' (first | (go_at_call 98; refine (drawSpreadSheet_n _ n _ HV.out).mono ?_; rintro e w1 ⟨r, s, hr, hs, rfl, hE⟩; replace HR := Lib.hid (HR.out.ext hE lHR); replace HS := Lib.hid (HS.out.ext hE lHS); obtain ⟨⟨a0, a1, a2, a3, a4, a5⟩, f0, f1, f2, f3, f4, f5⟩ := HR.out.all; obtain ⟨⟨b0, b1, b2, b3, b4, b5⟩, g0, g1, g2, g3, g4, g5⟩ := HS.out.all; replace HX := Lib.hid (HX.out.trans hE); clear hE) | go_skip | go_guarded | go_step | go_upon | go_values | (simp only []))
  obtain ⟨o1, o2, o3⟩ := two_out HR.out HS.out (by omega) (HX.out.off (fun _ => False)) (Nat.le_refl _) (by omega) r s
  exact bodyPost_ret (ret_cells2 rfl rfl rfl (load_sheet o1) (load_sheet o2)) rfl ⟨r, s, hr, hs, rfl, Off.ext (Ext.refl w) o3 (fun k hk => hk.elim)⟩
end Go.Proofs.Ytlifhoajamnehaa
