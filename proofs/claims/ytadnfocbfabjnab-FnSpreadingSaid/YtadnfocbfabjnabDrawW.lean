/- DrawW: contracts of functions, and lemmas, for this seat. Conditions: as each states. -/
import Derived.Test.YtadnfocbfabjnabDrawV
set_option linter.unusedVariables false
set_option maxRecDepth 100000
set_option maxHeartbeats 4000000
namespace Go.Proofs.Ytadnfocbfabjnab
open Go Go.RowKit Instr
theorem set6_ext {a w : World} (h : Ext a w) {q : Nat} (hq : a.heap.size ≤ q) (v : Nat → Int) : Ext a (set6 w q v) := Off.ext (Ext.refl a) ((h.off (fun _ => False)).six hq v) (fun _ h => h.elim)
theorem drawSpreadSheet_n (v : Value) (n : Nat) (w : World) (hv : Byt w w.heap.size v n) : Calls Try.prog 5 #[v] w fun e w' => ∃ r s : Nat → Int, Shy r ∧ Shy s ∧ e = .returned (.tuple #[(.agg #[.int .i64 (r 0), .int .i64 (r 1), .int .i64 (r 2), .int .i64 (r 3), .int .i64 (r 4), .int .i64 (r 5)]), (.agg #[.int .i64 (s 0), .int .i64 (s 1), .int .i64 (s 2), .int .i64 (s 3), .int .i64 (s 4), .int .i64 (s 5)])]) ∧ Ext w w' := by
  have HX := Lib.hid (((Ext.refl w).alloc (.cells #[.int .i64 0, .int .i64 0, .int .i64 0, .int .i64 0, .int .i64 0, .int .i64 0] 26)).alloc (.cells #[.int .i64 0, .int .i64 0, .int .i64 0, .int .i64 0, .int .i64 0, .int .i64 0] 26))
  have HV := Lib.hid (byt_mono (byt_ext hv (Nat.le_refl _) HX.out) HX.out.size)
  have HC := Lib.hid (cur_new _ v n 41 HV.out)
  have hsz : ((w.alloc (.cells #[.int .i64 0, .int .i64 0, .int .i64 0, .int .i64 0, .int .i64 0, .int .i64 0] 26)).alloc (.cells #[.int .i64 0, .int .i64 0, .int .i64 0, .int .i64 0, .int .i64 0, .int .i64 0] 26)).heap.size = w.heap.size + 1 + 1 := by simp
  rw [hsz] at HC
  have HO := Lib.hid (HX.out.off (fun k => k = w.heap.size + 1 + 1))
  have HR := Lib.hid ((Arr.new0 w 26 rfl).alloc (.cells #[.int .i64 0, .int .i64 0, .int .i64 0, .int .i64 0, .int .i64 0, .int .i64 0] 26) (by simp))
  have HS := Lib.hid (Arr.new0 (w.alloc (.cells #[.int .i64 0, .int .i64 0, .int .i64 0, .int .i64 0, .int .i64 0, .int .i64 0] 26)) 26 (b := w.heap.size + 1) (by simp))
  have lHR : w.heap.size < ((w.alloc (.cells #[.int .i64 0, .int .i64 0, .int .i64 0, .int .i64 0, .int .i64 0, .int .i64 0] 26)).alloc (.cells #[.int .i64 0, .int .i64 0, .int .i64 0, .int .i64 0, .int .i64 0, .int .i64 0] 26)).heap.size := by simp; omega
  have lHS : w.heap.size + 1 < ((w.alloc (.cells #[.int .i64 0, .int .i64 0, .int .i64 0, .int .i64 0, .int .i64 0, .int .i64 0] 26)).alloc (.cells #[.int .i64 0, .int .i64 0, .int .i64 0, .int .i64 0, .int .i64 0, .int .i64 0] 26)).heap.size := by simp
  have nHR : ¬ (w.heap.size = w.heap.size + 1 + 1) := by omega
  have nHS : ¬ (w.heap.size + 1 = w.heap.size + 1 + 1) := by omega
  obtain ⟨ao, cap, rfl, _⟩ := hv
  clear hsz HV HX
  skip
  go_enter Try.func5, Try.ntmps5
  repeat' (first | (go_at_call 23; refine (spread5_n (w.heap.size + 1 + 1) 0 (by omega) _ (by first | exact HC.out | exact cur_ext HC.out ((Ext.refl _).alloc _) | exact cur_ext HC.out (((Ext.refl _).alloc _).alloc _))).mono ?_; rintro e w1 ⟨r, s, hr, hs, rfl, hc, hO⟩; replace HC := Lib.hid hc; clear hc; replace HR := Lib.hid (Arr.off (by first | exact HR.out | exact Arr.alloc HR.out _ lHR) hO (by first | exact lHR | (simp; done) | (simp; omega)) nHR); replace lHR := Nat.lt_of_lt_of_le lHR (Nat.le_trans (by first | exact Nat.le_refl _ | (simp; done) | (simp; omega)) hO.size); (try clear hrd0 hrd1 hrd2 hrd3 hrd4 hrd5 hrf0 hrf1 hrf2 hrf3 hrf4 hrf5); obtain ⟨⟨hrd0, hrd1, hrd2, hrd3, hrd4, hrd5⟩, hrf0, hrf1, hrf2, hrf3, hrf4, hrf5⟩ := HR.out.all; replace HS := Lib.hid (Arr.off (by first | exact HS.out | exact Arr.alloc HS.out _ lHS) hO (by first | exact lHS | (simp; done) | (simp; omega)) nHS); replace lHS := Nat.lt_of_lt_of_le lHS (Nat.le_trans (by first | exact Nat.le_refl _ | (simp; done) | (simp; omega)) hO.size); (try clear hsd0 hsd1 hsd2 hsd3 hsd4 hsd5 hsf0 hsf1 hsf2 hsf3 hsf4 hsf5); obtain ⟨⟨hsd0, hsd1, hsd2, hsd3, hsd4, hsd5⟩, hsf0, hsf1, hsf2, hsf3, hsf4, hsf5⟩ := HS.out.all; replace HO := Lib.hid (Off.trans (by first | exact HO.out | exact HO.out.trans (((Ext.refl _).alloc _).off _)) hO); clear hO) | go_skip | go_guarded | go_step | go_upon | go_values | (simp only []))
  obtain ⟨o1, o2, o3⟩ := two_out HR.out HS.out (by omega) HO.out (Nat.le_refl _) (by omega) r s
  exact bodyPost_ret (ret_cells2 rfl rfl rfl (load_sheet o1) (load_sheet o2)) rfl ⟨r, s, hr, hs, rfl, Off.ext (Ext.refl w) o3 (fun k hk => by omega)⟩
end Go.Proofs.Ytadnfocbfabjnab
