/- DrawU: contracts of functions, and lemmas, for this seat. Conditions: as each states. -/
import Derived.Test.YtadnfocbfabjnaaDrawT
set_option linter.unusedVariables false
set_option maxRecDepth 100000
set_option maxHeartbeats 4000000
namespace Go.Proofs.Ytadnfocbfabjnaa
open Go Go.RowKit Instr
theorem ret_cells2 {P : Program} {fn : Func} {p q : Tmp} {ty tz : TypeId} {tmps : Array Value} {a b : Addr} {v x : Value} {w : World} (h : fn.results = #[.cell p ty, .cell q tz]) (hp : tmps.getD p undef = .pointer (some a)) (hq : tmps.getD q undef = .pointer (some b)) (hl : (loadVar ty a).run P w = .ok v w) (hm : (loadVar tz b).run P w = .ok x w) : (results fn tmps).run P w = .ok (.tuple #[v, x]) w := by
  have hp' : tmps[p]?.getD undef = .pointer (some a) := by simpa using hp
  have hq' : tmps[q]?.getD undef = .pointer (some b) := by simpa using hq
  simp only [results, h]
  have e : (asAddr (.pointer (some a))).run P w = .ok a w := rfl
  have e2 : (asAddr (.pointer (some b))).run P w = .ok b w := rfl
  simp [Sem.run_bind, Result.andThen, hp', hl, hq', hm, e, e2]
abbrev set6 (w : World) (b : Nat) (v : Nat → Int) : World := (((((w.setCell ⟨b, 0, none⟩ (.int .i64 (v 0))).setCell ⟨b, 1, none⟩ (.int .i64 (v 1))).setCell ⟨b, 2, none⟩ (.int .i64 (v 2))).setCell ⟨b, 3, none⟩ (.int .i64 (v 3))).setCell ⟨b, 4, none⟩ (.int .i64 (v 4))).setCell ⟨b, 5, none⟩ (.int .i64 (v 5))
theorem Arr.far6 {w : World} {b q : Nat} {g : Nat → Int} (h : Arr w b g) (hq : q ≠ b) (v : Nat → Int) : Arr (set6 w q v) b g :=
  (((((h.far (p := ⟨q, 0, none⟩) hq _).far (p := ⟨q, 1, none⟩) hq _).far (p := ⟨q, 2, none⟩) hq _).far (p := ⟨q, 3, none⟩) hq _).far (p := ⟨q, 4, none⟩) hq _).far (p := ⟨q, 5, none⟩) hq _
theorem Off.six {S : Nat → Prop} {a w : World} (h : Off S a w) {q : Nat} (hq : a.heap.size ≤ q) (v : Nat → Int) : Off S a (set6 w q v) :=
  (((((h.new (p := ⟨q, 0, none⟩) hq _).new (p := ⟨q, 1, none⟩) hq _).new (p := ⟨q, 2, none⟩) hq _).new (p := ⟨q, 3, none⟩) hq _).new (p := ⟨q, 4, none⟩) hq _).new (p := ⟨q, 5, none⟩) hq _
theorem Off.six_in {S : Nat → Prop} {a w : World} (h : Off S a w) {q : Nat} (hq : S q) (v : Nat → Int) : Off S a (set6 w q v) :=
  (((((h.set (p := ⟨q, 0, none⟩) hq _).set (p := ⟨q, 1, none⟩) hq _).set (p := ⟨q, 2, none⟩) hq _).set (p := ⟨q, 3, none⟩) hq _).set (p := ⟨q, 4, none⟩) hq _).set (p := ⟨q, 5, none⟩) hq _
theorem cur_six {c m : Nat} {w : World} (h : Cur c m w) {q : Nat} (hq : c < q) (v : Nat → Int) : Cur c m (set6 w q v) :=
  cur_set (cur_set (cur_set (cur_set (cur_set (cur_set h (p := ⟨q, 0, none⟩) hq _) (p := ⟨q, 1, none⟩) hq _) (p := ⟨q, 2, none⟩) hq _) (p := ⟨q, 3, none⟩) hq _) (p := ⟨q, 4, none⟩) hq _) (p := ⟨q, 5, none⟩) hq _
/-- two result sheets are written -/
theorem two_out {S : Nat → Prop} {a w : World} {p q : Nat} {g h : Nat → Int} (hp : Arr w p g) (hq : Arr w q h) (hpq : p ≠ q) (hO : Off S a w) (ap : a.heap.size ≤ p) (aq : a.heap.size ≤ q) (r s : Nat → Int) :
    Arr (set6 (set6 w p r) q s) p r ∧ Arr (set6 (set6 w p r) q s) q s ∧ Off S a (set6 (set6 w p r) q s) :=
  ⟨(hp.six r).far6 (fun e => hpq e.symm) s, (hq.far6 hpq r).six s, (hO.six ap r).six aq s⟩
theorem drawTimesToFill_n (v : Value) (n : Nat) (w : World) (hv : Byt w w.heap.size v n) : Calls Try.prog 48 #[v] w fun e w' => ∃ r s : Nat → Int, e = .returned (.tuple #[(.agg #[.int .i64 (r 0), .int .i64 (r 1), .int .i64 (r 2), .int .i64 (r 3), .int .i64 (r 4), .int .i64 (r 5)]), (.agg #[.int .i64 (s 0), .int .i64 (s 1), .int .i64 (s 2), .int .i64 (s 3), .int .i64 (s 4), .int .i64 (s 5)])]) ∧ Ext w w' := by
  have HX := Lib.hid (((Ext.refl w).alloc (.cells #[.int .i64 0, .int .i64 0, .int .i64 0, .int .i64 0, .int .i64 0, .int .i64 0] 26)).alloc (.cells #[.int .i64 0, .int .i64 0, .int .i64 0, .int .i64 0, .int .i64 0, .int .i64 0] 26))
  have HV := Lib.hid (byt_mono (byt_ext hv (Nat.le_refl _) HX.out) HX.out.size)
  have HC := Lib.hid (cur_new _ v n 95 HV.out)
  have hsz : ((w.alloc (.cells #[.int .i64 0, .int .i64 0, .int .i64 0, .int .i64 0, .int .i64 0, .int .i64 0] 26)).alloc (.cells #[.int .i64 0, .int .i64 0, .int .i64 0, .int .i64 0, .int .i64 0, .int .i64 0] 26)).heap.size = w.heap.size + 1 + 1 := by simp
  rw [hsz] at HC
  have HO := Lib.hid (HX.out.off (fun k => k = w.heap.size + 1 + 1))
  have HR := Lib.hid ((Arr.new0 w 26 rfl).alloc (.cells #[.int .i64 0, .int .i64 0, .int .i64 0, .int .i64 0, .int .i64 0, .int .i64 0] 26) (by simp))
  have HS := Lib.hid (Arr.new0 (w.alloc (.cells #[.int .i64 0, .int .i64 0, .int .i64 0, .int .i64 0, .int .i64 0, .int .i64 0] 26)) 26 (b := w.heap.size + 1) (by simp))
  have lHR : w.heap.size < ((w.alloc (.cells #[.int .i64 0, .int .i64 0, .int .i64 0, .int .i64 0, .int .i64 0, .int .i64 0] 26)).alloc (.cells #[.int .i64 0, .int .i64 0, .int .i64 0, .int .i64 0, .int .i64 0, .int .i64 0] 26)).heap.size := by simp; omega
  have lHS : w.heap.size + 1 < ((w.alloc (.cells #[.int .i64 0, .int .i64 0, .int .i64 0, .int .i64 0, .int .i64 0, .int .i64 0] 26)).alloc (.cells #[.int .i64 0, .int .i64 0, .int .i64 0, .int .i64 0, .int .i64 0, .int .i64 0] 26)).heap.size := by simp
  have nHR : ¬ (w.heap.size = w.heap.size + 1 + 1) := by omega
  have nHS : ¬ (w.heap.size + 1 = w.heap.size + 1 + 1) := by omega
  obtain ⟨ao, cap, rfl, _⟩ := hv
  clear hsz HV HX
  skip
  have tk0 := Lib.hid True.intro
  go_enter Try.func48, Try.ntmps48
  go_wp2_with (first | (clear tk0; (go_at_call 138; refine (cStamp_n (w.heap.size + 1 + 1) 0 (by omega) _ (by first | exact HC.out | exact cur_ext HC.out ((Ext.refl _).alloc _) | exact cur_ext HC.out (((Ext.refl _).alloc _).alloc _))).mono ?_; rintro e w1 ⟨r, rfl, hc, hO⟩; replace HC := Lib.hid hc; clear hc; replace HR := Lib.hid (Arr.off (by first | exact HR.out | exact Arr.alloc HR.out _ lHR) hO (by first | exact lHR | (simp; done) | (simp; omega)) nHR); replace lHR := Nat.lt_of_lt_of_le lHR (Nat.le_trans (by first | exact Nat.le_refl _ | (simp; done) | (simp; omega)) hO.size); (try clear hrd0 hrd1 hrd2 hrd3 hrd4 hrd5 hrf0 hrf1 hrf2 hrf3 hrf4 hrf5); obtain ⟨⟨hrd0, hrd1, hrd2, hrd3, hrd4, hrd5⟩, hrf0, hrf1, hrf2, hrf3, hrf4, hrf5⟩ := HR.out.all; replace HS := Lib.hid (Arr.off (by first | exact HS.out | exact Arr.alloc HS.out _ lHS) hO (by first | exact lHS | (simp; done) | (simp; omega)) nHS); replace lHS := Nat.lt_of_lt_of_le lHS (Nat.le_trans (by first | exact Nat.le_refl _ | (simp; done) | (simp; omega)) hO.size); (try clear hsd0 hsd1 hsd2 hsd3 hsd4 hsd5 hsf0 hsf1 hsf2 hsf3 hsf4 hsf5); obtain ⟨⟨hsd0, hsd1, hsd2, hsd3, hsd4, hsd5⟩, hsf0, hsf1, hsf2, hsf3, hsf4, hsf5⟩ := HS.out.all; replace HO := Lib.hid (Off.trans (by first | exact HO.out | exact HO.out.trans (((Ext.refl _).alloc _).off _)) hO); clear hO)) | (go_at_call 138; refine (cStamp_n (w.heap.size + 1 + 1) (0 + 102) (by omega) _ (by first | exact HC.out | exact cur_ext HC.out ((Ext.refl _).alloc _) | exact cur_ext HC.out (((Ext.refl _).alloc _).alloc _))).mono ?_; rintro e w1 ⟨s, rfl, hc, hO⟩; replace HC := Lib.hid hc; clear hc; replace HR := Lib.hid (Arr.off (by first | exact HR.out | exact Arr.alloc HR.out _ lHR) hO (by first | exact lHR | (simp; done) | (simp; omega)) nHR); replace lHR := Nat.lt_of_lt_of_le lHR (Nat.le_trans (by first | exact Nat.le_refl _ | (simp; done) | (simp; omega)) hO.size); (try clear hrd0 hrd1 hrd2 hrd3 hrd4 hrd5 hrf0 hrf1 hrf2 hrf3 hrf4 hrf5); obtain ⟨⟨hrd0, hrd1, hrd2, hrd3, hrd4, hrd5⟩, hrf0, hrf1, hrf2, hrf3, hrf4, hrf5⟩ := HR.out.all; replace HS := Lib.hid (Arr.off (by first | exact HS.out | exact Arr.alloc HS.out _ lHS) hO (by first | exact lHS | (simp; done) | (simp; omega)) nHS); replace lHS := Nat.lt_of_lt_of_le lHS (Nat.le_trans (by first | exact Nat.le_refl _ | (simp; done) | (simp; omega)) hO.size); (try clear hsd0 hsd1 hsd2 hsd3 hsd4 hsd5 hsf0 hsf1 hsf2 hsf3 hsf4 hsf5); obtain ⟨⟨hsd0, hsd1, hsd2, hsd3, hsd4, hsd5⟩, hsf0, hsf1, hsf2, hsf3, hsf4, hsf5⟩ := HS.out.all; replace HO := Lib.hid (Off.trans (by first | exact HO.out | exact HO.out.trans (((Ext.refl _).alloc _).off _)) hO); clear hO))
  obtain ⟨o1, o2, o3⟩ := two_out HR.out HS.out (by omega) HO.out (Nat.le_refl _) (by omega) r s
  exact bodyPost_ret (ret_cells2 rfl rfl rfl (load_sheet o1) (load_sheet o2)) rfl ⟨r, s, rfl, Off.ext (Ext.refl w) o3 (fun k hk => by omega)⟩
theorem drawSumStamp_n (v : Value) (n : Nat) (w : World) (hv : Byt w w.heap.size v n) : Calls Try.prog 51 #[v] w fun e w' => ∃ r s : Nat → Int, e = .returned (.tuple #[(.agg #[.int .i64 (r 0), .int .i64 (r 1), .int .i64 (r 2), .int .i64 (r 3), .int .i64 (r 4), .int .i64 (r 5)]), (.agg #[.int .i64 (s 0), .int .i64 (s 1), .int .i64 (s 2), .int .i64 (s 3), .int .i64 (s 4), .int .i64 (s 5)])]) ∧ Ext w w' := by
  have HX := Lib.hid (((Ext.refl w).alloc (.cells #[.int .i64 0, .int .i64 0, .int .i64 0, .int .i64 0, .int .i64 0, .int .i64 0] 26)).alloc (.cells #[.int .i64 0, .int .i64 0, .int .i64 0, .int .i64 0, .int .i64 0, .int .i64 0] 26))
  have HV := Lib.hid (byt_mono (byt_ext hv (Nat.le_refl _) HX.out) HX.out.size)
  have HR := Lib.hid ((Arr.new0 w 26 rfl).alloc (.cells #[.int .i64 0, .int .i64 0, .int .i64 0, .int .i64 0, .int .i64 0, .int .i64 0] 26) (by simp))
  have HS := Lib.hid (Arr.new0 (w.alloc (.cells #[.int .i64 0, .int .i64 0, .int .i64 0, .int .i64 0, .int .i64 0, .int .i64 0] 26)) 26 (b := w.heap.size + 1) (by simp))
  have lHR : w.heap.size < ((w.alloc (.cells #[.int .i64 0, .int .i64 0, .int .i64 0, .int .i64 0, .int .i64 0, .int .i64 0] 26)).alloc (.cells #[.int .i64 0, .int .i64 0, .int .i64 0, .int .i64 0, .int .i64 0, .int .i64 0] 26)).heap.size := by simp; omega
  have lHS : w.heap.size + 1 < ((w.alloc (.cells #[.int .i64 0, .int .i64 0, .int .i64 0, .int .i64 0, .int .i64 0, .int .i64 0] 26)).alloc (.cells #[.int .i64 0, .int .i64 0, .int .i64 0, .int .i64 0, .int .i64 0, .int .i64 0] 26)).heap.size := by simp
  obtain ⟨ao, cap, rfl, _⟩ := hv
  go_enter Try.func51, Try.ntmps51
  go_wp2_with (go_at_call 48; refine (drawTimesToFill_n _ n _ HV.out).mono ?_; rintro e w1 ⟨r, s, rfl, hE⟩; replace HR := Lib.hid (HR.out.ext hE lHR); replace HS := Lib.hid (HS.out.ext hE lHS); obtain ⟨⟨a0, a1, a2, a3, a4, a5⟩, f0, f1, f2, f3, f4, f5⟩ := HR.out.all; obtain ⟨⟨b0, b1, b2, b3, b4, b5⟩, g0, g1, g2, g3, g4, g5⟩ := HS.out.all; replace HX := Lib.hid (HX.out.trans hE); clear hE)
  obtain ⟨o1, o2, o3⟩ := two_out HR.out HS.out (by omega) (HX.out.off (fun _ => False)) (Nat.le_refl _) (by omega) r s
  exact bodyPost_ret (ret_cells2 rfl rfl rfl (load_sheet o1) (load_sheet o2)) rfl ⟨r, s, rfl, Off.ext (Ext.refl w) o3 (fun k hk => hk.elim)⟩
end Go.Proofs.Ytadnfocbfabjnaa
