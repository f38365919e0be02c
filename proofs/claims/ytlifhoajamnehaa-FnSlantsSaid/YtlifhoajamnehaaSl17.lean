/- Kp Kp3 DrawP DrawW: contracts of functions, and lemmas, for this seat. Conditions: as each states. -/
import Derived.Test.YtlifhoajamnehaaSl01
import Derived.Test.YtlifhoajamnehaaSl13
import Derived.Test.YtlifhoajamnehaaSl04
import Derived.Test.YtlifhoajamnehaaSl16
import Derived.Test.YtlifhoajamnehaaSl11
set_option linter.unusedVariables false
set_option linter.unusedSimpArgs false
set_option maxRecDepth 100000
set_option maxHeartbeats 1000000
namespace Go.Proofs.Ytlifhoajamnehaa
open Go Go.RowKit
/-! what a law keeps of its own sheets from call to call -/
def Kp (w : World) (b : Nat) (g : Nat → Int) : Prop := Arr w b g ∧ b < w.heap.size
theorem Kp.ext {w w' : World} {b : Nat} {g : Nat → Int} (h : Kp w b g) (hx : Ext w w') : Kp w' b g := ⟨h.1.ext hx h.2, Nat.lt_of_lt_of_le h.2 hx.size⟩
theorem Kp.c6 {w : World} {b : Nat} {g : Nat → Int} (h : Kp w b g) : b < w.heap.size ∧ w.cell? ⟨b, 0, none⟩ = some (.int .i64 (g 0)) ∧ w.cell? ⟨b, 1, none⟩ = some (.int .i64 (g 1)) ∧ w.cell? ⟨b, 2, none⟩ = some (.int .i64 (g 2)) ∧ w.cell? ⟨b, 3, none⟩ = some (.int .i64 (g 3)) ∧ w.cell? ⟨b, 4, none⟩ = some (.int .i64 (g 4)) ∧ w.cell? ⟨b, 5, none⟩ = some (.int .i64 (g 5)) :=
  ⟨h.2, h.1.all.1⟩
theorem Kp.new1 {w w' : World} {T : TypeId} (g : Nat → Int) (h : Ext (w.alloc (.cells #[.int .i64 (g 0), .int .i64 (g 1), .int .i64 (g 2), .int .i64 (g 3), .int .i64 (g 4), .int .i64 (g 5)] T)) w') : Kp w' w.heap.size g :=
  Kp.ext (w := w.alloc (.cells #[.int .i64 (g 0), .int .i64 (g 1), .int .i64 (g 2), .int .i64 (g 3), .int .i64 (g 4), .int .i64 (g 5)] T)) ⟨Arr.new w g T rfl, by simp⟩ h
theorem Kp.new21 {w w' : World} {T : TypeId} {o : Obj} (g : Nat → Int) (h : Ext ((w.alloc (.cells #[.int .i64 (g 0), .int .i64 (g 1), .int .i64 (g 2), .int .i64 (g 3), .int .i64 (g 4), .int .i64 (g 5)] T)).alloc o) w') : Kp w' w.heap.size g := Kp.new1 g (((Ext.refl _).alloc o).trans h)
theorem Kp.new22 {w w' : World} {T : TypeId} {o : Obj} (g : Nat → Int) (h : Ext ((w.alloc o).alloc (.cells #[.int .i64 (g 0), .int .i64 (g 1), .int .i64 (g 2), .int .i64 (g 3), .int .i64 (g 4), .int .i64 (g 5)] T)) w') : Kp w' (w.heap.size + 1) g := by
  have := Kp.new1 g h
  simp at this
  exact this
theorem Kp.new31 {w w' : World} {T : TypeId} {o p : Obj} (g : Nat → Int) (h : Ext (((w.alloc (.cells #[.int .i64 (g 0), .int .i64 (g 1), .int .i64 (g 2), .int .i64 (g 3), .int .i64 (g 4), .int .i64 (g 5)] T)).alloc o).alloc p) w') : Kp w' w.heap.size g := Kp.new21 g (((Ext.refl _).alloc p).trans h)
theorem Kp.new32 {w w' : World} {T : TypeId} {o p : Obj} (g : Nat → Int) (h : Ext (((w.alloc o).alloc (.cells #[.int .i64 (g 0), .int .i64 (g 1), .int .i64 (g 2), .int .i64 (g 3), .int .i64 (g 4), .int .i64 (g 5)] T)).alloc p) w') : Kp w' (w.heap.size + 1) g := Kp.new22 g (((Ext.refl _).alloc p).trans h)
theorem Kp.new33 {w w' : World} {T : TypeId} {o p : Obj} (g : Nat → Int) (h : Ext (((w.alloc o).alloc p).alloc (.cells #[.int .i64 (g 0), .int .i64 (g 1), .int .i64 (g 2), .int .i64 (g 3), .int .i64 (g 4), .int .i64 (g 5)] T)) w') : Kp w' (w.heap.size + 1 + 1) g := by
  have := Kp.new1 g h
  simp at this
  exact this
theorem Ext.link0 {a w w' : World} (h : Ext a w) (k : Ext w w') : Ext w w' := k
theorem Ext.link1 {a w w' : World} {o : Obj} (h : Ext a w) (k : Ext (w.alloc o) w') : Ext w w' := ((Ext.refl w).alloc o).trans k
theorem Ext.link2 {a w w' : World} {o p : Obj} (h : Ext a w) (k : Ext ((w.alloc o).alloc p) w') : Ext w w' := (((Ext.refl w).alloc o).alloc p).trans k
theorem Ext.link3 {a w w' : World} {o p q : Obj} (h : Ext a w) (k : Ext (((w.alloc o).alloc p).alloc q) w') : Ext w w' := ((((Ext.refl w).alloc o).alloc p).alloc q).trans k
end Go.Proofs.Ytlifhoajamnehaa
set_option linter.unusedVariables false
set_option linter.unusedSimpArgs false
set_option maxRecDepth 100000
set_option maxHeartbeats 1000000
namespace Go.Proofs.Ytlifhoajamnehaa
open Go Go.RowKit Instr
/-! what a law keeps of its own rows, and of its tables of 36 -/
def KpO (w : World) (B : Nat) (T : TypeId) (sz : Nat) (v : Value) (n : Nat) (xs : List Value) : Prop := w.ownsRow B T sz v n xs
theorem KpO.mk {w : World} {B : Nat} {T : TypeId} {sz : Nat} {v : Value} {n : Nat} {xs : List Value} (h : w.ownsRow B T sz v n xs) : KpO w B T sz v n xs := h
theorem KpO.row {w : World} {B : Nat} {T : TypeId} {sz : Nat} {v : Value} {n : Nat} {xs : List Value} (h : KpO w B T sz v n xs) : w.ownsRow B T sz v n xs := h
theorem KpO.ext {w w' : World} {B : Nat} {T : TypeId} {sz : Nat} {v : Value} {n : Nat} {xs : List Value} (h : KpO w B T sz v n xs) (hx : Ext w w') : KpO w' B T sz v n xs := own_ext h hx
theorem KpO.c6 {w : World} {B : Nat} {T : TypeId} {sz : Nat} {v : Value} {n : Nat} {xs : List Value} (h : KpO w B T sz v n xs) : True := trivial
theorem ints_Gl (L : List Nat) : ints L = Gl L.length (fun j => ((L[j]?).getD 0 : Nat)) := by
  refine List.ext_getElem? fun i => ?_
  rcases Nat.lt_or_ge i L.length with h | h
  · rw [Gl_get h, ints_get L i L[i] (List.getElem?_eq_getElem h), List.getElem?_eq_getElem h]
    rfl
  · rw [List.getElem?_eq_none (by rw [ints_length]; exact h), List.getElem?_eq_none (by unfold Gl; simp; exact h)]
def KpM (w : World) (b : Nat) (g : Nat → Int) : Prop := Big w b 65 36 g
theorem KpM.mk {w : World} {b : Nat} {g : Nat → Int} (h : Big w b 65 36 g) : KpM w b g := h
theorem KpM.ext {w w' : World} {b : Nat} {g : Nat → Int} (h : KpM w b g) (hx : Ext w w') : KpM w' b g := Big.ext h hx
theorem KpM.c6 {w : World} {b : Nat} {g : Nat → Int} (h : KpM w b g) : b < w.heap.size := Big.lt h
theorem eq36_same (g : Nat → Int) : eq36 g g = true := by unfold eq36; simp
theorem neq36_is (g : Nat → Int) : ∀ w, (binOp .neq 65 (.agg (av 36 g)) (.agg (av 36 g))).run Try.prog w = .ok (.bool false) w := fun w => by
  rw [run_neq_struct, run_equalIn_array w 9999 _ _ Try.underlying65 (i := (Try.prog.info? 24).getD default) (by kernel_rfl), show Try.prog.cellsOf 24 = 6 by kernel_rfl, items6_eq g g w _ (by simp)]
  rw [show ((List.range 6).all fun k => (List.range 6).all fun q => row6 g k q == row6 g k q) = eq36 g g from rfl, eq36_same]
  rfl
theorem wpList_load_rowG {P : Program} {ops : Array Oper} {rest : List Oper} {o : Oper} {a : Act} {w : World} {Q : Exit → Act → World → Prop} (hgd : Region.wanted o (yielded ops a.tmps) = true) (ty : TypeId) (x : Operand) (ho : o.op = .load ty x)
    (g : Nat) (hx : a.eval x = .pointer (some ⟨g, 0, none⟩)) (t : TypeId) (cs : Array Value) (fr : Nat × Nat) (d : TypeDesc) (hg : w.heap[g]? = some (.cells cs t fr))
    (hu : P.underlying ty = some d) (hd : (match d with | .struct _ | .array _ _ => true | _ => false) = true) (hi : (P.info? ty).map (·.size) = some cs.size)
    (h : wpList P ops Q rest (a.put o.dst (.agg cs)) w) : wpList P ops Q (o :: rest) a w :=
  BigFrame.wpList_want hgd fun _ hK => wp_load_row ty x ho g hx t cs fr d hg hu hd hi (hK _ _ h)
theorem vInts_ints (B C : Nat) (L : List Nat) (v u : Value) (w : World) (hn : L.length < 2000000) (h : w.ownsRow B 3 1 v L.length (ints L)) (k : w.ownsRow C 3 1 u L.length (ints L)) :
    Calls Try.prog 58 #[v, u] w fun e w' => e = .returned (.bool true) ∧ Ext w w' := by
  rw [ints_Gl] at h k
  exact vInts_same B C L.length _ v u w hn h k
theorem vHas_ints (B : Nat) (L : List Nat) (x : Nat) (c : Bool) (hc : decide (x ∈ L) = c) (hn : L.length < 2000000) (v : Value) (w : World) (h : w.ownsRow B 3 1 v L.length (ints L)) :
    Calls Try.prog 59 #[v, .int .i64 (x : Int)] w fun e w' => e = .returned (.bool c) ∧ Ext w w' := by
  rw [ints_Gl] at h
  refine vHas_n B L.length _ (x : Int) c ?_ hn v w h
  rw [← hc, decide_eq_true_eq]
  constructor
  · intro hm
    obtain ⟨j, hj, e⟩ := List.getElem_of_mem hm
    exact ⟨j, hj, by rw [List.getElem?_eq_getElem hj, e]; rfl⟩
  · rintro ⟨j, hj, e⟩
    rw [List.getElem?_eq_getElem hj] at e
    have e2 : L[j] = x := by simp at e; omega
    rw [← e2]
    exact List.getElem_mem hj
end Go.Proofs.Ytlifhoajamnehaa
set_option linter.unusedVariables false
set_option linter.unusedSimpArgs false
set_option maxRecDepth 100000
set_option maxHeartbeats 4000000
namespace Go.Proofs.Ytlifhoajamnehaa
open Go Go.RowKit Instr
theorem periodic7_n (c m : Nat) (hm : m + 400 ≤ 1099511627776) (w : World) (h : Cur c m w) : Calls Try.prog 74 #[.pointer (some ⟨c, 0, none⟩)] w fun e w' => ∃ r : Nat → Int, Shy r ∧ e = .returned (.agg #[.int .i64 (r 0), .int .i64 (r 1), .int .i64 (r 2), .int .i64 (r 3), .int .i64 (r 4), .int .i64 (r 5)]) ∧ Cur c (m + 400) w' ∧ Off (fun k => k = c) w w' := by
  have hcp : c < w.heap.size := h.1
  have hpc : w.heap.size ≠ c := by omega
  have HX := Lib.hid ((Ext.refl w).alloc (.cells #[.int .i64 0, .int .i64 0, .int .i64 0, .int .i64 0, .int .i64 0, .int .i64 0] 26))
  have HC := Lib.hid (cur_ext h HX.out)
  have HO := Lib.hid (HX.out.off (fun k => k = c))
  have HR := Lib.hid (Arr.new0 w 26 rfl)
  have lHR : w.heap.size < (w.alloc (.cells #[.int .i64 0, .int .i64 0, .int .i64 0, .int .i64 0, .int .i64 0, .int .i64 0] 26)).heap.size := by simp
  have nHR : ¬ (w.heap.size = c) := by omega
  clear h HX
  skip
  have tk0 := Lib.hid True.intro; have tk1 := Lib.hid True.intro; have tk2 := Lib.hid True.intro; have tk3 := Lib.hid True.intro
  go_enter Try.func74, Try.ntmps74
  go_wp2_with (first
    | (clear tk0; ((go_at_call 135; refine (cStamp_s c m (by omega) _ (by first | exact HC.out | exact cur_ext HC.out ((Ext.refl _).alloc _) | exact cur_ext HC.out (((Ext.refl _).alloc _).alloc _))).mono ?_; rintro e w1 ⟨s, hss, rfl, hc, hO⟩; replace HC := Lib.hid hc; clear hc; replace HR := Lib.hid (Arr.off (by first | exact HR.out | exact Arr.alloc HR.out _ lHR) hO (by first | exact lHR | (simp; done) | (simp; omega)) nHR); replace lHR := Nat.lt_of_lt_of_le lHR (Nat.le_trans (by first | exact Nat.le_refl _ | (simp; done) | (simp; omega)) hO.size); (try clear hrd0 hrd1 hrd2 hrd3 hrd4 hrd5 hrf0 hrf1 hrf2 hrf3 hrf4 hrf5); obtain ⟨⟨hrd0, hrd1, hrd2, hrd3, hrd4, hrd5⟩, hrf0, hrf1, hrf2, hrf3, hrf4, hrf5⟩ := HR.out.all; replace HO := Lib.hid (Off.trans (by first | exact HO.out | exact HO.out.trans (((Ext.refl _).alloc _).off _) | exact HO.out.trans ((((Ext.refl _).alloc _).alloc _).off _)) hO); clear hO); obtain ⟨wb, rfl⟩ : ∃ x, x = w1 := ⟨_, rfl⟩; (have hzb : c < wb.heap.size := HC.out.1); (have hz2 : w.heap.size < wb.heap.size := lHR); (have HS := Lib.hid (Arr.new wb s 26 rfl)); (have hX := (Ext.refl wb).alloc (.cells #[.int .i64 (s 0), .int .i64 (s 1), .int .i64 (s 2), .int .i64 (s 3), .int .i64 (s 4), .int .i64 (s 5)] 26)); (replace HC := Lib.hid (cur_ext HC.out hX)); (replace HO := Lib.hid (HO.out.trans (hX.off _))); (replace HR := Lib.hid (HR.out.ext hX lHR)); (replace lHR := Nat.lt_of_lt_of_le lHR hX.size); (have lHS : wb.heap.size < (wb.alloc (.cells #[.int .i64 (s 0), .int .i64 (s 1), .int .i64 (s 2), .int .i64 (s 3), .int .i64 (s 4), .int .i64 (s 5)] 26)).heap.size := by simp); (have nHS : ¬ (wb.heap.size = c) := by omega); (have hwb := HO.out.size); clear hX; skip; (rcases hss with hv | ⟨n, hn, rfl⟩)))
    | (go_at_call 75; refine (l2Sheet_is _ _ (by first | exact hv | exact vs_rw n) _).mono ?_; rintro e w1 ⟨rfl, hE⟩; have hO := hE.off (fun k => k = c); replace HC := Lib.hid (cur_ext HC.out hE); replace HR := Lib.hid (Arr.off (by first | exact HR.out | exact Arr.alloc HR.out _ lHR) hO (by first | exact lHR | (simp; done) | (simp; omega)) nHR); replace lHR := Nat.lt_of_lt_of_le lHR (Nat.le_trans (by first | exact Nat.le_refl _ | (simp; done) | (simp; omega)) hO.size); (try clear hrd0 hrd1 hrd2 hrd3 hrd4 hrd5 hrf0 hrf1 hrf2 hrf3 hrf4 hrf5); obtain ⟨⟨hrd0, hrd1, hrd2, hrd3, hrd4, hrd5⟩, hrf0, hrf1, hrf2, hrf3, hrf4, hrf5⟩ := HR.out.all; replace HS := Lib.hid (Arr.off (by first | exact HS.out | exact Arr.alloc HS.out _ lHS) hO (by first | exact lHS | (simp; done) | (simp; omega)) nHS); replace lHS := Nat.lt_of_lt_of_le lHS (Nat.le_trans (by first | exact Nat.le_refl _ | (simp; done) | (simp; omega)) hO.size); (try clear hsd0 hsd1 hsd2 hsd3 hsd4 hsd5 hsf0 hsf1 hsf2 hsf3 hsf4 hsf5); obtain ⟨⟨hsd0, hsd1, hsd2, hsd3, hsd4, hsd5⟩, hsf0, hsf1, hsf2, hsf3, hsf4, hsf5⟩ := HS.out.all; replace HO := Lib.hid (HO.out.trans hO); clear hO hE)
    | (clear tk1; ((go_at_call 82; refine (one_n c (m + 102) 4 (by omega) (by omega) (by omega) _ (by first | exact HC.out | exact cur_ext HC.out ((Ext.refl _).alloc _) | exact cur_ext HC.out (((Ext.refl _).alloc _).alloc _))).mono ?_; rintro e w1 ⟨b, rfl, hc, hO⟩; replace HC := Lib.hid hc; clear hc; replace HR := Lib.hid (Arr.off (by first | exact HR.out | exact Arr.alloc HR.out _ lHR) hO (by first | exact lHR | (simp; done) | (simp; omega)) nHR); replace lHR := Nat.lt_of_lt_of_le lHR (Nat.le_trans (by first | exact Nat.le_refl _ | (simp; done) | (simp; omega)) hO.size); (try clear hrd0 hrd1 hrd2 hrd3 hrd4 hrd5 hrf0 hrf1 hrf2 hrf3 hrf4 hrf5); obtain ⟨⟨hrd0, hrd1, hrd2, hrd3, hrd4, hrd5⟩, hrf0, hrf1, hrf2, hrf3, hrf4, hrf5⟩ := HR.out.all; replace HS := Lib.hid (Arr.off (by first | exact HS.out | exact Arr.alloc HS.out _ lHS) hO (by first | exact lHS | (simp; done) | (simp; omega)) nHS); replace lHS := Nat.lt_of_lt_of_le lHS (Nat.le_trans (by first | exact Nat.le_refl _ | (simp; done) | (simp; omega)) hO.size); (try clear hsd0 hsd1 hsd2 hsd3 hsd4 hsd5 hsf0 hsf1 hsf2 hsf3 hsf4 hsf5); obtain ⟨⟨hsd0, hsd1, hsd2, hsd3, hsd4, hsd5⟩, hsf0, hsf1, hsf2, hsf3, hsf4, hsf5⟩ := HS.out.all; replace HO := Lib.hid (Off.trans (by first | exact HO.out | exact HO.out.trans (((Ext.refl _).alloc _).off _) | exact HO.out.trans ((((Ext.refl _).alloc _).alloc _).off _)) hO); clear hO); cases b))
    | (clear tk2; (go_at_call 136; refine (cSheet_s c (m + 104) (by omega) _ (by exact cur_mono HC.out (by omega))).mono ?_; rintro e w1 ⟨r, hr, rfl, hc, hO⟩; replace HC := Lib.hid hc; clear hc; replace HR := Lib.hid (Arr.off (by first | exact HR.out | exact Arr.alloc HR.out _ lHR) hO (by first | exact lHR | (simp; done) | (simp; omega)) nHR); replace lHR := Nat.lt_of_lt_of_le lHR (Nat.le_trans (by first | exact Nat.le_refl _ | (simp; done) | (simp; omega)) hO.size); (try clear hrd0 hrd1 hrd2 hrd3 hrd4 hrd5 hrf0 hrf1 hrf2 hrf3 hrf4 hrf5); obtain ⟨⟨hrd0, hrd1, hrd2, hrd3, hrd4, hrd5⟩, hrf0, hrf1, hrf2, hrf3, hrf4, hrf5⟩ := HR.out.all; replace HS := Lib.hid (Arr.off (by first | exact HS.out | exact Arr.alloc HS.out _ lHS) hO (by first | exact lHS | (simp; done) | (simp; omega)) nHS); replace lHS := Nat.lt_of_lt_of_le lHS (Nat.le_trans (by first | exact Nat.le_refl _ | (simp; done) | (simp; omega)) hO.size); (try clear hsd0 hsd1 hsd2 hsd3 hsd4 hsd5 hsf0 hsf1 hsf2 hsf3 hsf4 hsf5); obtain ⟨⟨hsd0, hsd1, hsd2, hsd3, hsd4, hsd5⟩, hsf0, hsf1, hsf2, hsf3, hsf4, hsf5⟩ := HS.out.all; replace HO := Lib.hid (Off.trans (by first | exact HO.out | exact HO.out.trans (((Ext.refl _).alloc _).off _) | exact HO.out.trans ((((Ext.refl _).alloc _).alloc _).off _)) hO); clear hO))
    | (clear tk3; (go_at_call 83; refine (pick_n c (m + 102 + 2) 2 (by omega) (by omega) (by omega) _ HC.out).mono ?_; rintro e w1 ⟨q, rfl, hq, hc, hO⟩; replace HC := Lib.hid hc; clear hc; replace HR := Lib.hid (Arr.off (by first | exact HR.out | exact Arr.alloc HR.out _ lHR) hO (by first | exact lHR | (simp; done) | (simp; omega)) nHR); replace lHR := Nat.lt_of_lt_of_le lHR (Nat.le_trans (by first | exact Nat.le_refl _ | (simp; done) | (simp; omega)) hO.size); (try clear hrd0 hrd1 hrd2 hrd3 hrd4 hrd5 hrf0 hrf1 hrf2 hrf3 hrf4 hrf5); obtain ⟨⟨hrd0, hrd1, hrd2, hrd3, hrd4, hrd5⟩, hrf0, hrf1, hrf2, hrf3, hrf4, hrf5⟩ := HR.out.all; replace HS := Lib.hid (Arr.off (by first | exact HS.out | exact Arr.alloc HS.out _ lHS) hO (by first | exact lHS | (simp; done) | (simp; omega)) nHS); replace lHS := Nat.lt_of_lt_of_le lHS (Nat.le_trans (by first | exact Nat.le_refl _ | (simp; done) | (simp; omega)) hO.size); (try clear hsd0 hsd1 hsd2 hsd3 hsd4 hsd5 hsf0 hsf1 hsf2 hsf3 hsf4 hsf5); obtain ⟨⟨hsd0, hsd1, hsd2, hsd3, hsd4, hsd5⟩, hsf0, hsf1, hsf2, hsf3, hsf4, hsf5⟩ := HS.out.all; replace HO := Lib.hid (Off.trans (by first | exact HO.out | exact HO.out.trans (((Ext.refl _).alloc _).off _) | exact HO.out.trans ((((Ext.refl _).alloc _).alloc _).off _)) hO); clear hO)))
  · exact bodyPost_ret (ret_cell rfl rfl (load_sheet (HR.out.six r))) rfl ⟨r, hr, rfl, cur_mono (cur_six HC.out (by omega) r) (by omega), HO.out.six (Nat.le_refl _) r⟩
  · have hwc := HC.out.1
    have hbc : wb.heap.size ≠ c := by omega
    have hcb : c < wb.heap.size := by omega
    have hwb2 : w.heap.size ≤ wb.heap.size := by omega
    have hpb : w.heap.size ≠ wb.heap.size := by omega
    have HT := Lib.hid (show Sht c (m + 106) w.heap.size wb.heap.size w w1 (rw n) from ⟨HC.out, HO.out, HR.out, lHR, HS.out, lHS⟩)
    clear HC HO HR HS lHR lHS
    (try clear hrd0 hrd1 hrd2 hrd3 hrd4 hrd5 hrf0 hrf1 hrf2 hrf3 hrf4 hrf5 hsd0 hsd1 hsd2 hsd3 hsd4 hsd5 hsf0 hsf1 hsf2 hsf3 hsf4 hsf5)
    go_loopw [4] (fun i wr => ∃ (q g : Nat), q ≤ 2 ∧ i = .int .i64 q ∧ g < 68719476736 ∧ Sht c (m + 110 - 4 * q + 8) w.heap.size wb.heap.size w wr (rw g)) (fun i _ => (intOf i).toNat)
    case atStart => exact ⟨q + 1, n, by omega, by go_num, hn, HT.out.mono (by omega)⟩
    case round =>
      clear HT hq
      obtain ⟨q, g, hq, rfl, hg, ht⟩ := hrel
      obtain ⟨wo, rfl⟩ : ∃ wo : World, wo = wr := ⟨_, rfl⟩
      have HT := Lib.hid ht
      clear ht
      by_cases hq0 : 0 < q
      · have tk0 := Lib.hid True.intro; have tk1 := Lib.hid True.intro
        go_wp2_with (first
          | (clear tk0; (go_at_call 83; refine (pick_n c (m + 110 - 4 * q + 8) 6 (by omega) (by omega) (by omega) _ HT.out.cur).mono ?_; rintro e w1 ⟨x, rfl, hx, hc, hO⟩; replace HT := Lib.hid (HT.out.call hpc hbc hc hO); clear hc hO))
          | (clear tk1; (go_at_call 83; refine (pick_n c (m + 110 - 4 * q + 8 + 2) 6 (by omega) (by omega) (by omega) _ HT.out.cur).mono ?_; rintro e w1 ⟨y, rfl, hy, hc, hO⟩; replace HT := Lib.hid (HT.out.call hpc hbc hc hO); clear hc hO; obtain ⟨wp, rfl⟩ : ∃ x, x = w1 := ⟨_, rfl⟩)))
        go_loopw [7] (fun i wr => ∃ (k z : Nat), k ≤ 5 ∧ i = .int .i64 k ∧ z < 68719476736 ∧ Sht c (m + 110 - 4 * q + 8 + 2 + 2) w.heap.size wb.heap.size w wr (rw z)) (fun i _ => 5 - (intOf i).toNat)
        case atStart => exact ⟨0, g, by omega, rfl, hg, HT.out⟩
        case round =>
          clear HT
          obtain ⟨k, z, hk, rfl, hz, ht⟩ := hrel
          obtain ⟨wi, rfl⟩ : ∃ wi : World, wi = wr := ⟨_, rfl⟩
          have HT := Lib.hid ht
          clear ht
          by_cases hk5 : k < 5
          · obtain ⟨⟨s0, s1, s2, s3, s4, s5⟩, f0, f1, f2, f3, f4, f5⟩ := HT.out.arr.all
            have zl := HT.out.larr
            have h1 := or36 hz (sh_lt z (m6 (x : Int)) (m6 (y : Int)))
            skip
            go_wp2
            refine wp_calm 6 0 (fun _ => (#[], 0)) (by kernel_rfl) (by kernel_rfl) ?_; simp only [List.take_succ_cons, List.take_zero, List.drop_succ_cons, List.drop_zero]; intro hgr; (refine walkQ_step (fun K hK => ?_); go_simp; (try (go_ints; try go_simp)); first | (refine hK _ ?_; clear hK K) | (apply Exists.intro; refine ⟨fun _ => ?_, hK _ ?_⟩; (first | (go_at_call 81; exact (l2Shift_n z (x : Int) (y : Int) _)) | (go_at_call 137; exact (l2Or_n z _ _))); clear hK K) | (simp only [↓IntWalk.iteOmega]; (try go_simp); (try (go_ints; try go_simp)); first | (refine hK _ ?_; clear hK K) | (apply Exists.intro; refine ⟨fun _ => ?_, hK _ ?_⟩; (first | (go_at_call 81; exact (l2Shift_n z (x : Int) (y : Int) _)) | (go_at_call 137; exact (l2Or_n z _ _))); clear hK K))); (refine walkQ_step (fun K hK => ?_); go_simp; (try (go_ints; try go_simp)); first | (refine hK _ ?_; clear hK K) | (apply Exists.intro; refine ⟨fun _ => ?_, hK _ ?_⟩; (first | (go_at_call 81; exact (l2Shift_n z (x : Int) (y : Int) _)) | (go_at_call 137; exact (l2Or_n z _ _))); clear hK K) | (simp only [↓IntWalk.iteOmega]; (try go_simp); (try (go_ints; try go_simp)); first | (refine hK _ ?_; clear hK K) | (apply Exists.intro; refine ⟨fun _ => ?_, hK _ ?_⟩; (first | (go_at_call 81; exact (l2Shift_n z (x : Int) (y : Int) _)) | (go_at_call 137; exact (l2Or_n z _ _))); clear hK K))); (refine walkQ_step (fun K hK => ?_); go_simp; (try (go_ints; try go_simp)); first | (refine hK _ ?_; clear hK K) | (apply Exists.intro; refine ⟨fun _ => ?_, hK _ ?_⟩; (first | (go_at_call 81; exact (l2Shift_n z (x : Int) (y : Int) _)) | (go_at_call 137; exact (l2Or_n z _ _))); clear hK K) | (simp only [↓IntWalk.iteOmega]; (try go_simp); (try (go_ints; try go_simp)); first | (refine hK _ ?_; clear hK K) | (apply Exists.intro; refine ⟨fun _ => ?_, hK _ ?_⟩; (first | (go_at_call 81; exact (l2Shift_n z (x : Int) (y : Int) _)) | (go_at_call 137; exact (l2Or_n z _ _))); clear hK K))); (refine walkQ_step (fun K hK => ?_); go_simp; (try (go_ints; try go_simp)); first | (refine hK _ ?_; clear hK K) | (apply Exists.intro; refine ⟨fun _ => ?_, hK _ ?_⟩; (first | (go_at_call 81; exact (l2Shift_n z (x : Int) (y : Int) _)) | (go_at_call 137; exact (l2Or_n z _ _))); clear hK K) | (simp only [↓IntWalk.iteOmega]; (try go_simp); (try (go_ints; try go_simp)); first | (refine hK _ ?_; clear hK K) | (apply Exists.intro; refine ⟨fun _ => ?_, hK _ ?_⟩; (first | (go_at_call 81; exact (l2Shift_n z (x : Int) (y : Int) _)) | (go_at_call 137; exact (l2Or_n z _ _))); clear hK K))); (refine walkQ_step (fun K hK => ?_); go_simp; (try (go_ints; try go_simp)); first | (refine hK _ ?_; clear hK K) | (apply Exists.intro; refine ⟨fun _ => ?_, hK _ ?_⟩; (first | (go_at_call 81; exact (l2Shift_n z (x : Int) (y : Int) _)) | (go_at_call 137; exact (l2Or_n z _ _))); clear hK K) | (simp only [↓IntWalk.iteOmega]; (try go_simp); (try (go_ints; try go_simp)); first | (refine hK _ ?_; clear hK K) | (apply Exists.intro; refine ⟨fun _ => ?_, hK _ ?_⟩; (first | (go_at_call 81; exact (l2Shift_n z (x : Int) (y : Int) _)) | (go_at_call 137; exact (l2Or_n z _ _))); clear hK K))); (refine walkQ_step (fun K hK => ?_); go_simp; (try (go_ints; try go_simp)); first | (refine hK _ ?_; clear hK K) | (apply Exists.intro; refine ⟨fun _ => ?_, hK _ ?_⟩; (first | (go_at_call 81; exact (l2Shift_n z (x : Int) (y : Int) _)) | (go_at_call 137; exact (l2Or_n z _ _))); clear hK K) | (simp only [↓IntWalk.iteOmega]; (try go_simp); (try (go_ints; try go_simp)); first | (refine hK _ ?_; clear hK K) | (apply Exists.intro; refine ⟨fun _ => ?_, hK _ ?_⟩; (first | (go_at_call 81; exact (l2Shift_n z (x : Int) (y : Int) _)) | (go_at_call 137; exact (l2Or_n z _ _))); clear hK K))); refine walkQ_nil ?_; clear hgr; refine walkF_nil ?_; intro w1 hE _; have hc2 := hE.cells; have hf2 := hE.frees; have hz2 := hE.size
            replace hE : Ext wi w1 := ((Ext.refl wi).drew).trans hE
            have HT2 := Lib.hid (HT.out.ext hE)
            clear s0 s1 s2 s3 s4 s5 f0 f1 f2 f3 f4 f5
            obtain ⟨⟨s0, s1, s2, s3, s4, s5⟩, f0, f1, f2, f3, f4, f5⟩ := HT2.out.arr.all
            go_wp2
            exact ⟨⟨k + 1, _, by omega, by go_num, h1, HT2.out.six hcb hwb2 hpb (rw _)⟩, by simp [intOf]; omega⟩
          · obtain rfl : k = 5 := by omega
            go_wp2
            exact ⟨⟨q - 1, z, by omega, val_int (by omega), hz, HT.out.mono (by omega)⟩, by simp [intOf]; omega⟩
      · obtain rfl : q = 0 := by omega
        obtain ⟨⟨s0, s1, s2, s3, s4, s5⟩, f0, f1, f2, f3, f4, f5⟩ := HT.out.arr.all
        obtain ⟨⟨r0, r1, r2, r3, r4, r5⟩, g0, g1, g2, g3, g4, g5⟩ := HT.out.res.all
        go_wp2
        obtain ⟨o1, o2, o3⟩ := (HT.out.mono (k := m + 400) (by omega)).out hcp (Nat.le_refl _) (rw g)
        exact bodyPost_ret (ret_cell rfl rfl (load_sheet o1)) rfl ⟨rw g, shy_rw hg, rfl, o2, o3⟩
  · exact bodyPost_ret (ret_cell rfl rfl (load_sheet (HR.out.six r))) rfl ⟨r, hr, rfl, cur_mono (cur_six HC.out (by omega) r) (by omega), HO.out.six (Nat.le_refl _) r⟩
end Go.Proofs.Ytlifhoajamnehaa
set_option linter.unusedVariables false
set_option linter.unusedSimpArgs false
set_option maxRecDepth 100000
set_option maxHeartbeats 4000000
namespace Go.Proofs.Ytlifhoajamnehaa
open Go Go.RowKit Instr
theorem set6_ext {a w : World} (h : Ext a w) {q : Nat} (hq : a.heap.size ≤ q) (v : Nat → Int) : Ext a (set6 w q v) := Off.ext (Ext.refl a) ((h.off (fun _ => False)).six hq v) (fun _ h => h.elim)
theorem drawSpreadSheet_n (v : Value) (n : Nat) (w : World) (hv : Byt w w.heap.size v n) : Calls Try.prog 98 #[v] w fun e w' => ∃ r s : Nat → Int, Shy r ∧ Shy s ∧ e = .returned (.tuple #[(.agg #[.int .i64 (r 0), .int .i64 (r 1), .int .i64 (r 2), .int .i64 (r 3), .int .i64 (r 4), .int .i64 (r 5)]), (.agg #[.int .i64 (s 0), .int .i64 (s 1), .int .i64 (s 2), .int .i64 (s 3), .int .i64 (s 4), .int .i64 (s 5)])]) ∧ Ext w w' := by
  have HX := Lib.hid (((Ext.refl w).alloc (.cells #[.int .i64 0, .int .i64 0, .int .i64 0, .int .i64 0, .int .i64 0, .int .i64 0] 26)).alloc (.cells #[.int .i64 0, .int .i64 0, .int .i64 0, .int .i64 0, .int .i64 0, .int .i64 0] 26))
  have HV := Lib.hid (byt_mono (byt_ext hv (Nat.le_refl _) HX.out) HX.out.size)
  have HC := Lib.hid (cur_new _ v n 79 HV.out)
  have hsz : ((w.alloc (.cells #[.int .i64 0, .int .i64 0, .int .i64 0, .int .i64 0, .int .i64 0, .int .i64 0] 26)).alloc (.cells #[.int .i64 0, .int .i64 0, .int .i64 0, .int .i64 0, .int .i64 0, .int .i64 0] 26)).heap.size = w.heap.size + 1 + 1 := by simp
  rw [hsz] at HC
  have HO := Lib.hid (HX.out.off (fun k => k = w.heap.size + 1 + 1))
  have HR := Lib.hid ((Arr.new0 w 26 rfl).alloc (.cells #[.int .i64 0, .int .i64 0, .int .i64 0, .int .i64 0, .int .i64 0, .int .i64 0] 26) (by simp))
  have HS := Lib.hid (Arr.new0 (w.alloc (.cells #[.int .i64 0, .int .i64 0, .int .i64 0, .int .i64 0, .int .i64 0, .int .i64 0] 26)) 26 (b := w.heap.size + 1) (by simp))
  have lHR : w.heap.size < ((w.alloc (.cells #[.int .i64 0, .int .i64 0, .int .i64 0, .int .i64 0, .int .i64 0, .int .i64 0] 26)).alloc (.cells #[.int .i64 0, .int .i64 0, .int .i64 0, .int .i64 0, .int .i64 0, .int .i64 0] 26)).heap.size := by simp; omega
  have lHS : w.heap.size + 1 < ((w.alloc (.cells #[.int .i64 0, .int .i64 0, .int .i64 0, .int .i64 0, .int .i64 0, .int .i64 0] 26)).alloc (.cells #[.int .i64 0, .int .i64 0, .int .i64 0, .int .i64 0, .int .i64 0, .int .i64 0] 26)).heap.size := by simp
  have nHR : ¬ (w.heap.size = w.heap.size + 1 + 1) := by omega
  have nHS : ¬ (w.heap.size + 1 = w.heap.size + 1 + 1) := by omega
  obtain ⟨ao, cap, rfl, _⟩ := hv
  clear hsz HV HX
  skip
  go_enter Try.func98, Try.ntmps98
  repeat' (first | (go_at_call 145; refine (spread5_n (w.heap.size + 1 + 1) 0 (by omega) _ (by first | exact HC.out | exact cur_ext HC.out ((Ext.refl _).alloc _) | exact cur_ext HC.out (((Ext.refl _).alloc _).alloc _))).mono ?_; rintro e w1 ⟨r, s, hr, hs, rfl, hc, hO⟩; replace HC := Lib.hid hc; clear hc; replace HR := Lib.hid (Arr.off (by first | exact HR.out | exact Arr.alloc HR.out _ lHR) hO (by first | exact lHR | (simp; done) | (simp; omega)) nHR); replace lHR := Nat.lt_of_lt_of_le lHR (Nat.le_trans (by first | exact Nat.le_refl _ | (simp; done) | (simp; omega)) hO.size); (try clear hrd0 hrd1 hrd2 hrd3 hrd4 hrd5 hrf0 hrf1 hrf2 hrf3 hrf4 hrf5); obtain ⟨⟨hrd0, hrd1, hrd2, hrd3, hrd4, hrd5⟩, hrf0, hrf1, hrf2, hrf3, hrf4, hrf5⟩ := HR.out.all; replace HS := Lib.hid (Arr.off (by first | exact HS.out | exact Arr.alloc HS.out _ lHS) hO (by first | exact lHS | (simp; done) | (simp; omega)) nHS); replace lHS := Nat.lt_of_lt_of_le lHS (Nat.le_trans (by first | exact Nat.le_refl _ | (simp; done) | (simp; omega)) hO.size); (try clear hsd0 hsd1 hsd2 hsd3 hsd4 hsd5 hsf0 hsf1 hsf2 hsf3 hsf4 hsf5); obtain ⟨⟨hsd0, hsd1, hsd2, hsd3, hsd4, hsd5⟩, hsf0, hsf1, hsf2, hsf3, hsf4, hsf5⟩ := HS.out.all; replace HO := Lib.hid (Off.trans (by first | exact HO.out | exact HO.out.trans (((Ext.refl _).alloc _).off _) | exact HO.out.trans ((((Ext.refl _).alloc _).alloc _).off _)) hO); clear hO) | go_skip | go_guarded | go_step | go_upon | go_values | (simp only []))
  obtain ⟨o1, o2, o3⟩ := two_out HR.out HS.out (by omega) HO.out (Nat.le_refl _) (by omega) r s
  exact bodyPost_ret (ret_cells2 rfl rfl rfl (load_sheet o1) (load_sheet o2)) rfl ⟨r, s, hr, hs, rfl, Off.ext (Ext.refl w) o3 (fun k hk => by omega)⟩
theorem dDrawCommonTable_n (v : Value) (n : Nat) (w : World) (hv : Byt w w.heap.size v n) : Calls Try.prog 30 #[v] w fun e w' => ∃ r s : Nat → Int, Shy r ∧ Shy s ∧ e = .returned (.tuple #[(.agg #[.int .i64 (r 0), .int .i64 (r 1), .int .i64 (r 2), .int .i64 (r 3), .int .i64 (r 4), .int .i64 (r 5)]), (.agg #[.int .i64 (s 0), .int .i64 (s 1), .int .i64 (s 2), .int .i64 (s 3), .int .i64 (s 4), .int .i64 (s 5)])]) ∧ Ext w w' := by
  have HX := Lib.hid (((Ext.refl w).alloc (.cells #[.int .i64 0, .int .i64 0, .int .i64 0, .int .i64 0, .int .i64 0, .int .i64 0] 26)).alloc (.cells #[.int .i64 0, .int .i64 0, .int .i64 0, .int .i64 0, .int .i64 0, .int .i64 0] 26))
  have HV := Lib.hid (byt_mono (byt_ext hv (Nat.le_refl _) HX.out) HX.out.size)
  have HR := Lib.hid ((Arr.new0 w 26 rfl).alloc (.cells #[.int .i64 0, .int .i64 0, .int .i64 0, .int .i64 0, .int .i64 0, .int .i64 0] 26) (by simp))
  have HS := Lib.hid (Arr.new0 (w.alloc (.cells #[.int .i64 0, .int .i64 0, .int .i64 0, .int .i64 0, .int .i64 0, .int .i64 0] 26)) 26 (b := w.heap.size + 1) (by simp))
  have lHR : w.heap.size < ((w.alloc (.cells #[.int .i64 0, .int .i64 0, .int .i64 0, .int .i64 0, .int .i64 0, .int .i64 0] 26)).alloc (.cells #[.int .i64 0, .int .i64 0, .int .i64 0, .int .i64 0, .int .i64 0, .int .i64 0] 26)).heap.size := by simp; omega
  have lHS : w.heap.size + 1 < ((w.alloc (.cells #[.int .i64 0, .int .i64 0, .int .i64 0, .int .i64 0, .int .i64 0, .int .i64 0] 26)).alloc (.cells #[.int .i64 0, .int .i64 0, .int .i64 0, .int .i64 0, .int .i64 0, .int .i64 0] 26)).heap.size := by simp
  obtain ⟨ao, cap, rfl, _⟩ := hv
  go_enter Try.func30, Try.ntmps30
  repeat' (first | (go_at_call 98; refine (drawSpreadSheet_n _ n _ HV.out).mono ?_; rintro e w1 ⟨r, s, hr, hs, rfl, hE⟩; replace HR := Lib.hid (HR.out.ext hE lHR); replace HS := Lib.hid (HS.out.ext hE lHS); obtain ⟨⟨a0, a1, a2, a3, a4, a5⟩, f0, f1, f2, f3, f4, f5⟩ := HR.out.all; obtain ⟨⟨b0, b1, b2, b3, b4, b5⟩, g0, g1, g2, g3, g4, g5⟩ := HS.out.all; replace HX := Lib.hid (HX.out.trans hE); clear hE) | go_skip | go_guarded | go_step | go_upon | go_values | (simp only []))
  obtain ⟨o1, o2, o3⟩ := two_out HR.out HS.out (by omega) (HX.out.off (fun _ => False)) (Nat.le_refl _) (by omega) r s
  exact bodyPost_ret (ret_cells2 rfl rfl rfl (load_sheet o1) (load_sheet o2)) rfl ⟨r, s, hr, hs, rfl, Off.ext (Ext.refl w) o3 (fun k hk => hk.elim)⟩
end Go.Proofs.Ytlifhoajamnehaa
