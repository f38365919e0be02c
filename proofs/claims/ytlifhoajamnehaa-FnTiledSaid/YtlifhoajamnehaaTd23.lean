/- DrawD VCut: contracts of functions, and lemmas, for this seat. Conditions: as each states. -/
import Derived.Test.YtlifhoajamnehaaTd22
import Derived.Test.YtlifhoajamnehaaTd06
import Derived.Deep.DeepCutAuto
import Derived.Test.YtlifhoajamnehaaTd09
set_option linter.unusedVariables false
set_option linter.unusedSimpArgs false
set_option maxRecDepth 100000
set_option maxHeartbeats 8000000
namespace Go.Proofs.Ytlifhoajamnehaa
open Go Go.RowKit Instr
theorem rwK : (∀ j, j < 3 → rw 62415 j = 15) ∧ (∀ j, 3 ≤ j → j < 6 → rw 62415 j = 0) := by
  constructor
  · intro j hj
    have : j = 0 ∨ j = 1 ∨ j = 2 := by omega
    rcases this with rfl | rfl | rfl <;> (rw [rw_nat]; rfl)
  · intro j hj hj2
    have : j = 3 ∨ j = 4 ∨ j = 5 := by omega
    rcases this with rfl | rfl | rfl <;> (rw [rw_nat]; rfl)
theorem l2And_k (a : Nat) (w : World) : Calls Try.prog 109 #[(.agg #[.int .i64 (rw a 0), .int .i64 (rw a 1), .int .i64 (rw a 2), .int .i64 (rw a 3), .int .i64 (rw a 4), .int .i64 (rw a 5)]), .agg #[.int .i64 15, .int .i64 15, .int .i64 15, .int .i64 0, .int .i64 0, .int .i64 0]] w fun e w' => e = .returned (.agg #[.int .i64 (rw (a &&& 62415) 0), .int .i64 (rw (a &&& 62415) 1), .int .i64 (rw (a &&& 62415) 2), .int .i64 (rw (a &&& 62415) 3), .int .i64 (rw (a &&& 62415) 4), .int .i64 (rw (a &&& 62415) 5)]) ∧ Ext w w' := by
  have h := l2And_n a 62415 w
  obtain ⟨e1, e2⟩ := rwK
  rw [e1 0 (by decide), e1 1 (by decide), e1 2 (by decide), e2 3 (by decide) (by decide), e2 4 (by decide) (by decide), e2 5 (by decide) (by decide)] at h
  exact h
theorem drawCountTilings_n (v : Value) (n : Nat) (w : World) (hv : Byt w w.heap.size v n) : Calls Try.prog 67 #[v] w fun e w' => ∃ r s : Nat → Int, Shy r ∧ Shy s ∧ e = .returned (.tuple #[(.agg #[.int .i64 (r 0), .int .i64 (r 1), .int .i64 (r 2), .int .i64 (r 3), .int .i64 (r 4), .int .i64 (r 5)]), (.agg #[.int .i64 (s 0), .int .i64 (s 1), .int .i64 (s 2), .int .i64 (s 3), .int .i64 (s 4), .int .i64 (s 5)])]) ∧ Ext w w' := by
  have HX := Lib.hid (((Ext.refl w).alloc (.cells #[.int .i64 0, .int .i64 0, .int .i64 0, .int .i64 0, .int .i64 0, .int .i64 0] 26)).alloc (.cells #[.int .i64 0, .int .i64 0, .int .i64 0, .int .i64 0, .int .i64 0, .int .i64 0] 26))
  have HV := Lib.hid (byt_mono (byt_ext hv (Nat.le_refl _) HX.out) HX.out.size)
  have HC := Lib.hid (cur_new _ v n 79 HV.out)
  have hsz : ((w.alloc (.cells #[.int .i64 0, .int .i64 0, .int .i64 0, .int .i64 0, .int .i64 0, .int .i64 0] 26)).alloc (.cells #[.int .i64 0, .int .i64 0, .int .i64 0, .int .i64 0, .int .i64 0, .int .i64 0] 26)).heap.size = w.heap.size + 1 + 1 := by simp
  rw [hsz] at HC
  have HO := Lib.hid (HX.out.off (fun k => k = w.heap.size + 1 + 1))
  have HR := Lib.hid ((Arr.new0 w 26 rfl).alloc (.cells #[.int .i64 0, .int .i64 0, .int .i64 0, .int .i64 0, .int .i64 0, .int .i64 0] 26) (by simp))
  have HS := Lib.hid (Arr.new0 (w.alloc (.cells #[.int .i64 0, .int .i64 0, .int .i64 0, .int .i64 0, .int .i64 0, .int .i64 0] 26)) 26 (b := w.heap.size + 1) (by simp))
  have lHR : w.heap.size < ((w.alloc (.cells #[.int .i64 0, .int .i64 0, .int .i64 0, .int .i64 0, .int .i64 0, .int .i64 0] 26)).alloc (.cells #[.int .i64 0, .int .i64 0, .int .i64 0, .int .i64 0, .int .i64 0, .int .i64 0] 26)).heap.size := by simp; omega
  have lHS : w.heap.size + 1 < ((w.alloc (.cells #[.int .i64 0, .int .i64 0, .int .i64 0, .int .i64 0, .int .i64 0, .int .i64 0] 26)).alloc (.cells #[.int .i64 0, .int .i64 0, .int .i64 0, .int .i64 0, .int .i64 0, .int .i64 0] 26)).heap.size := by simp
  have nHR : ¬ (w.heap.size = w.heap.size + 1 + 1) := by omega
  have nHS : ¬ (w.heap.size + 1 = w.heap.size + 1 + 1) := by omega
  obtain ⟨ao, cap, rfl, _⟩ := hv
  clear hsz HV HX
  skip
  have tk0 := Lib.hid True.intro; have tk1 := Lib.hid True.intro; have tk2 := Lib.hid True.intro
  go_enter Try.func67, Try.ntmps67
  repeat' (go_not_at_region 3; first | (clear tk0; (go_at_call 131; refine (inked_n (w.heap.size + 1 + 1) 0 3 (by decide) (by decide) (by omega) _ (by first | exact HC.out | exact cur_ext HC.out ((Ext.refl _).alloc _) | exact cur_ext HC.out (((Ext.refl _).alloc _).alloc _))).mono ?_; rintro e w1 ⟨r, s, hr, hs, rfl, hc, hO⟩; replace HC := Lib.hid hc; clear hc; replace HR := Lib.hid (Arr.off (by first | exact HR.out | exact Arr.alloc HR.out _ lHR) hO (by first | exact lHR | (simp; done) | (simp; omega)) nHR); replace lHR := Nat.lt_of_lt_of_le lHR (Nat.le_trans (by first | exact Nat.le_refl _ | (simp; done) | (simp; omega)) hO.size); (try clear hrd0 hrd1 hrd2 hrd3 hrd4 hrd5 hrf0 hrf1 hrf2 hrf3 hrf4 hrf5); obtain ⟨⟨hrd0, hrd1, hrd2, hrd3, hrd4, hrd5⟩, hrf0, hrf1, hrf2, hrf3, hrf4, hrf5⟩ := HR.out.all; replace HS := Lib.hid (Arr.off (by first | exact HS.out | exact Arr.alloc HS.out _ lHS) hO (by first | exact lHS | (simp; done) | (simp; omega)) nHS); replace lHS := Nat.lt_of_lt_of_le lHS (Nat.le_trans (by first | exact Nat.le_refl _ | (simp; done) | (simp; omega)) hO.size); (try clear hsd0 hsd1 hsd2 hsd3 hsd4 hsd5 hsf0 hsf1 hsf2 hsf3 hsf4 hsf5); obtain ⟨⟨hsd0, hsd1, hsd2, hsd3, hsd4, hsd5⟩, hsf0, hsf1, hsf2, hsf3, hsf4, hsf5⟩ := HS.out.all; replace HO := Lib.hid (Off.trans (by first | exact HO.out | exact HO.out.trans (((Ext.refl _).alloc _).off _) | exact HO.out.trans ((((Ext.refl _).alloc _).alloc _).off _)) hO); clear hO)) | go_skip | go_guarded | go_step | go_upon | go_values | (simp only []))
  obtain ⟨wb, rfl⟩ : ∃ x, x = w1 := ⟨_, rfl⟩
  have hz2 : w.heap.size + 1 < wb.heap.size := lHS
  have hzb : w.heap.size + 1 + 1 < wb.heap.size := HC.out.1
  have HA := Lib.hid ((Arr.new wb r 26 rfl).alloc (.cells #[.int .i64 (s 0), .int .i64 (s 1), .int .i64 (s 2), .int .i64 (s 3), .int .i64 (s 4), .int .i64 (s 5)] 26) (by simp))
  have HB := Lib.hid (Arr.new (wb.alloc (.cells #[.int .i64 (r 0), .int .i64 (r 1), .int .i64 (r 2), .int .i64 (r 3), .int .i64 (r 4), .int .i64 (r 5)] 26)) s 26 (b := wb.heap.size + 1) (by simp))
  have hX := ((Ext.refl wb).alloc (.cells #[.int .i64 (r 0), .int .i64 (r 1), .int .i64 (r 2), .int .i64 (r 3), .int .i64 (r 4), .int .i64 (r 5)] 26)).alloc (.cells #[.int .i64 (s 0), .int .i64 (s 1), .int .i64 (s 2), .int .i64 (s 3), .int .i64 (s 4), .int .i64 (s 5)] 26)
  replace HC := Lib.hid (cur_ext HC.out hX)
  replace HO := Lib.hid (HO.out.trans (hX.off _))
  replace HR := Lib.hid (HR.out.ext hX lHR)
  replace HS := Lib.hid (HS.out.ext hX lHS)
  replace lHR := Nat.lt_of_lt_of_le lHR hX.size
  replace lHS := Nat.lt_of_lt_of_le lHS hX.size
  have lHA : wb.heap.size < ((wb.alloc (.cells #[.int .i64 (r 0), .int .i64 (r 1), .int .i64 (r 2), .int .i64 (r 3), .int .i64 (r 4), .int .i64 (r 5)] 26)).alloc (.cells #[.int .i64 (s 0), .int .i64 (s 1), .int .i64 (s 2), .int .i64 (s 3), .int .i64 (s 4), .int .i64 (s 5)] 26)).heap.size := by simp <;> omega
  have lHB : wb.heap.size + 1 < ((wb.alloc (.cells #[.int .i64 (r 0), .int .i64 (r 1), .int .i64 (r 2), .int .i64 (r 3), .int .i64 (r 4), .int .i64 (r 5)] 26)).alloc (.cells #[.int .i64 (s 0), .int .i64 (s 1), .int .i64 (s 2), .int .i64 (s 3), .int .i64 (s 4), .int .i64 (s 5)] 26)).heap.size := by simp
  have nHA : ¬ (wb.heap.size = w.heap.size + 1 + 1) := by omega
  have nHB : ¬ (wb.heap.size + 1 = w.heap.size + 1 + 1) := by omega
  have nHB2 : ¬ (wb.heap.size = w.heap.size + 1) := by omega
  have d1 : ¬ (w.heap.size = wb.heap.size + 1) := by omega
  have d2 : ¬ (wb.heap.size + 1 = w.heap.size) := by omega
  clear hX
  skip
  rcases hs with hv2 | ⟨k, hk, rfl⟩
  · repeat' (first | (go_at_call 75; refine (l2Sheet_is _ _ hv2 _).mono ?_; rintro e w1 ⟨rfl, hE⟩; have hO := hE.off (fun k => k = w.heap.size + 1 + 1); replace HC := Lib.hid (cur_ext HC.out hE); replace HR := Lib.hid (Arr.off (by first | exact HR.out | exact Arr.alloc HR.out _ lHR) hO (by first | exact lHR | (simp; done) | (simp; omega)) nHR); replace lHR := Nat.lt_of_lt_of_le lHR (Nat.le_trans (by first | exact Nat.le_refl _ | (simp; done) | (simp; omega)) hO.size); (try clear hrd0 hrd1 hrd2 hrd3 hrd4 hrd5 hrf0 hrf1 hrf2 hrf3 hrf4 hrf5); obtain ⟨⟨hrd0, hrd1, hrd2, hrd3, hrd4, hrd5⟩, hrf0, hrf1, hrf2, hrf3, hrf4, hrf5⟩ := HR.out.all; replace HS := Lib.hid (Arr.off (by first | exact HS.out | exact Arr.alloc HS.out _ lHS) hO (by first | exact lHS | (simp; done) | (simp; omega)) nHS); replace lHS := Nat.lt_of_lt_of_le lHS (Nat.le_trans (by first | exact Nat.le_refl _ | (simp; done) | (simp; omega)) hO.size); (try clear hsd0 hsd1 hsd2 hsd3 hsd4 hsd5 hsf0 hsf1 hsf2 hsf3 hsf4 hsf5); obtain ⟨⟨hsd0, hsd1, hsd2, hsd3, hsd4, hsd5⟩, hsf0, hsf1, hsf2, hsf3, hsf4, hsf5⟩ := HS.out.all; replace HA := Lib.hid (Arr.off (by first | exact HA.out | exact Arr.alloc HA.out _ lHA) hO (by first | exact lHA | (simp; done) | (simp; omega)) nHA); replace lHA := Nat.lt_of_lt_of_le lHA (Nat.le_trans (by first | exact Nat.le_refl _ | (simp; done) | (simp; omega)) hO.size); (try clear had0 had1 had2 had3 had4 had5 haf0 haf1 haf2 haf3 haf4 haf5); obtain ⟨⟨had0, had1, had2, had3, had4, had5⟩, haf0, haf1, haf2, haf3, haf4, haf5⟩ := HA.out.all; replace HB := Lib.hid (Arr.off (by first | exact HB.out | exact Arr.alloc HB.out _ lHB) hO (by first | exact lHB | (simp; done) | (simp; omega)) nHB); replace lHB := Nat.lt_of_lt_of_le lHB (Nat.le_trans (by first | exact Nat.le_refl _ | (simp; done) | (simp; omega)) hO.size); (try clear hbd0 hbd1 hbd2 hbd3 hbd4 hbd5 hbf0 hbf1 hbf2 hbf3 hbf4 hbf5); obtain ⟨⟨hbd0, hbd1, hbd2, hbd3, hbd4, hbd5⟩, hbf0, hbf1, hbf2, hbf3, hbf4, hbf5⟩ := HB.out.all; replace HO := Lib.hid (HO.out.trans hO); clear hO hE) | go_skip | go_guarded | go_step | go_upon | go_values | (simp only []))
    go_region
    simp only [Exit.then]; rename_i hKz; refine hKz _ _ ?_; refine wp_ret ?_
    obtain ⟨o1, o2, o3⟩ := two_out HR.out HS.out (by omega) HO.out (Nat.le_refl _) (by omega) (r) (s); exact bodyPost_ret (ret_cells2 rfl rfl rfl (load_sheet o1.drew) (load_sheet o2.drew)) rfl ⟨_, _, hr, .inl hv2, rfl, Off.ext (Ext.refl w) (o3.trans ((Ext.refl _).drew.off _)) (fun k hk => by omega)⟩
  · by_cases hc : 12 < cnt k
    · have hd : decide ((12 : Int) < (cnt k : Int)) = true := decide_eq_true (by omega)
      have hcb := cnt_le k
      have HCN := Lib.hid (fun w => l2Count_n k w)
      generalize cnt k = N at *
      repeat' (first | (clear tk2; (go_at_call 75; refine (l2Sheet_is _ _ (vs_rw k) _).mono ?_; rintro e w1 ⟨rfl, hE⟩; have hO := hE.off (fun k => k = w.heap.size + 1 + 1); replace HC := Lib.hid (cur_ext HC.out hE); replace HR := Lib.hid (Arr.off (by first | exact HR.out | exact Arr.alloc HR.out _ lHR) hO (by first | exact lHR | (simp; done) | (simp; omega)) nHR); replace lHR := Nat.lt_of_lt_of_le lHR (Nat.le_trans (by first | exact Nat.le_refl _ | (simp; done) | (simp; omega)) hO.size); (try clear hrd0 hrd1 hrd2 hrd3 hrd4 hrd5 hrf0 hrf1 hrf2 hrf3 hrf4 hrf5); obtain ⟨⟨hrd0, hrd1, hrd2, hrd3, hrd4, hrd5⟩, hrf0, hrf1, hrf2, hrf3, hrf4, hrf5⟩ := HR.out.all; replace HS := Lib.hid (Arr.off (by first | exact HS.out | exact Arr.alloc HS.out _ lHS) hO (by first | exact lHS | (simp; done) | (simp; omega)) nHS); replace lHS := Nat.lt_of_lt_of_le lHS (Nat.le_trans (by first | exact Nat.le_refl _ | (simp; done) | (simp; omega)) hO.size); (try clear hsd0 hsd1 hsd2 hsd3 hsd4 hsd5 hsf0 hsf1 hsf2 hsf3 hsf4 hsf5); obtain ⟨⟨hsd0, hsd1, hsd2, hsd3, hsd4, hsd5⟩, hsf0, hsf1, hsf2, hsf3, hsf4, hsf5⟩ := HS.out.all; replace HA := Lib.hid (Arr.off (by first | exact HA.out | exact Arr.alloc HA.out _ lHA) hO (by first | exact lHA | (simp; done) | (simp; omega)) nHA); replace lHA := Nat.lt_of_lt_of_le lHA (Nat.le_trans (by first | exact Nat.le_refl _ | (simp; done) | (simp; omega)) hO.size); (try clear had0 had1 had2 had3 had4 had5 haf0 haf1 haf2 haf3 haf4 haf5); obtain ⟨⟨had0, had1, had2, had3, had4, had5⟩, haf0, haf1, haf2, haf3, haf4, haf5⟩ := HA.out.all; replace HB := Lib.hid (Arr.off (by first | exact HB.out | exact Arr.alloc HB.out _ lHB) hO (by first | exact lHB | (simp; done) | (simp; omega)) nHB); replace lHB := Nat.lt_of_lt_of_le lHB (Nat.le_trans (by first | exact Nat.le_refl _ | (simp; done) | (simp; omega)) hO.size); (try clear hbd0 hbd1 hbd2 hbd3 hbd4 hbd5 hbf0 hbf1 hbf2 hbf3 hbf4 hbf5); obtain ⟨⟨hbd0, hbd1, hbd2, hbd3, hbd4, hbd5⟩, hbf0, hbf1, hbf2, hbf3, hbf4, hbf5⟩ := HB.out.all; replace HO := Lib.hid (HO.out.trans hO); clear hO hE)) | (go_at_call 104; refine (HCN.out _).mono ?_; rintro e w1 ⟨rfl, hE⟩; have hO := hE.off (fun k => k = w.heap.size + 1 + 1); replace HC := Lib.hid (cur_ext HC.out hE); replace HR := Lib.hid (Arr.off (by first | exact HR.out | exact Arr.alloc HR.out _ lHR) hO (by first | exact lHR | (simp; done) | (simp; omega)) nHR); replace lHR := Nat.lt_of_lt_of_le lHR (Nat.le_trans (by first | exact Nat.le_refl _ | (simp; done) | (simp; omega)) hO.size); (try clear hrd0 hrd1 hrd2 hrd3 hrd4 hrd5 hrf0 hrf1 hrf2 hrf3 hrf4 hrf5); obtain ⟨⟨hrd0, hrd1, hrd2, hrd3, hrd4, hrd5⟩, hrf0, hrf1, hrf2, hrf3, hrf4, hrf5⟩ := HR.out.all; replace HS := Lib.hid (Arr.off (by first | exact HS.out | exact Arr.alloc HS.out _ lHS) hO (by first | exact lHS | (simp; done) | (simp; omega)) nHS); replace lHS := Nat.lt_of_lt_of_le lHS (Nat.le_trans (by first | exact Nat.le_refl _ | (simp; done) | (simp; omega)) hO.size); (try clear hsd0 hsd1 hsd2 hsd3 hsd4 hsd5 hsf0 hsf1 hsf2 hsf3 hsf4 hsf5); obtain ⟨⟨hsd0, hsd1, hsd2, hsd3, hsd4, hsd5⟩, hsf0, hsf1, hsf2, hsf3, hsf4, hsf5⟩ := HS.out.all; replace HA := Lib.hid (Arr.off (by first | exact HA.out | exact Arr.alloc HA.out _ lHA) hO (by first | exact lHA | (simp; done) | (simp; omega)) nHA); replace lHA := Nat.lt_of_lt_of_le lHA (Nat.le_trans (by first | exact Nat.le_refl _ | (simp; done) | (simp; omega)) hO.size); (try clear had0 had1 had2 had3 had4 had5 haf0 haf1 haf2 haf3 haf4 haf5); obtain ⟨⟨had0, had1, had2, had3, had4, had5⟩, haf0, haf1, haf2, haf3, haf4, haf5⟩ := HA.out.all; replace HB := Lib.hid (Arr.off (by first | exact HB.out | exact Arr.alloc HB.out _ lHB) hO (by first | exact lHB | (simp; done) | (simp; omega)) nHB); replace lHB := Nat.lt_of_lt_of_le lHB (Nat.le_trans (by first | exact Nat.le_refl _ | (simp; done) | (simp; omega)) hO.size); (try clear hbd0 hbd1 hbd2 hbd3 hbd4 hbd5 hbf0 hbf1 hbf2 hbf3 hbf4 hbf5); obtain ⟨⟨hbd0, hbd1, hbd2, hbd3, hbd4, hbd5⟩, hbf0, hbf1, hbf2, hbf3, hbf4, hbf5⟩ := HB.out.all; replace HO := Lib.hid (HO.out.trans hO); clear hO hE) | (clear tk1; ((go_at_call 82; refine (one_n (w.heap.size + 1 + 1) (0 + 300) 6 (by omega) (by omega) (by omega) _ HC.out).mono ?_; rintro e w1 ⟨b, rfl, hc, hO⟩; replace HC := Lib.hid hc; clear hc; replace HR := Lib.hid (Arr.off (by first | exact HR.out | exact Arr.alloc HR.out _ lHR) hO (by first | exact lHR | (simp; done) | (simp; omega)) nHR); replace lHR := Nat.lt_of_lt_of_le lHR (Nat.le_trans (by first | exact Nat.le_refl _ | (simp; done) | (simp; omega)) hO.size); (try clear hrd0 hrd1 hrd2 hrd3 hrd4 hrd5 hrf0 hrf1 hrf2 hrf3 hrf4 hrf5); obtain ⟨⟨hrd0, hrd1, hrd2, hrd3, hrd4, hrd5⟩, hrf0, hrf1, hrf2, hrf3, hrf4, hrf5⟩ := HR.out.all; replace HS := Lib.hid (Arr.off (by first | exact HS.out | exact Arr.alloc HS.out _ lHS) hO (by first | exact lHS | (simp; done) | (simp; omega)) nHS); replace lHS := Nat.lt_of_lt_of_le lHS (Nat.le_trans (by first | exact Nat.le_refl _ | (simp; done) | (simp; omega)) hO.size); (try clear hsd0 hsd1 hsd2 hsd3 hsd4 hsd5 hsf0 hsf1 hsf2 hsf3 hsf4 hsf5); obtain ⟨⟨hsd0, hsd1, hsd2, hsd3, hsd4, hsd5⟩, hsf0, hsf1, hsf2, hsf3, hsf4, hsf5⟩ := HS.out.all; replace HA := Lib.hid (Arr.off (by first | exact HA.out | exact Arr.alloc HA.out _ lHA) hO (by first | exact lHA | (simp; done) | (simp; omega)) nHA); replace lHA := Nat.lt_of_lt_of_le lHA (Nat.le_trans (by first | exact Nat.le_refl _ | (simp; done) | (simp; omega)) hO.size); (try clear had0 had1 had2 had3 had4 had5 haf0 haf1 haf2 haf3 haf4 haf5); obtain ⟨⟨had0, had1, had2, had3, had4, had5⟩, haf0, haf1, haf2, haf3, haf4, haf5⟩ := HA.out.all; replace HB := Lib.hid (Arr.off (by first | exact HB.out | exact Arr.alloc HB.out _ lHB) hO (by first | exact lHB | (simp; done) | (simp; omega)) nHB); replace lHB := Nat.lt_of_lt_of_le lHB (Nat.le_trans (by first | exact Nat.le_refl _ | (simp; done) | (simp; omega)) hO.size); (try clear hbd0 hbd1 hbd2 hbd3 hbd4 hbd5 hbf0 hbf1 hbf2 hbf3 hbf4 hbf5); obtain ⟨⟨hbd0, hbd1, hbd2, hbd3, hbd4, hbd5⟩, hbf0, hbf1, hbf2, hbf3, hbf4, hbf5⟩ := HB.out.all; replace HO := Lib.hid (Off.trans (by first | exact HO.out | exact HO.out.trans (((Ext.refl _).alloc _).off _) | exact HO.out.trans ((((Ext.refl _).alloc _).alloc _).off _)) hO); clear hO); cases b)) | go_skip | go_guarded | go_step | go_upon | go_values | (simp only []))
      · refine wp_float (w.heap.size + 1 + 1) [(0, true), (1, true), (2, true), (3, true), (4, false)] [5, 6] (by kernel_rfl) (by kernel_rfl) ?_; simp only [pickO, pickT, List.getElem?_cons_succ, List.getElem?_cons_zero]; intro hgr hor; have HOR := Lib.hid hor; clear hor; replace HC := Lib.hid (cur_ext HC.out (Ext.refl _).drew); replace HO := Lib.hid (HO.out.trans ((Ext.refl _).drew.off (fun k => k = w.heap.size + 1 + 1))); replace HR := Lib.hid (HR.out.ext (Ext.refl _).drew lHR); replace HS := Lib.hid (HS.out.ext (Ext.refl _).drew lHS); replace HA := Lib.hid (HA.out.ext (Ext.refl _).drew lHA); replace HB := Lib.hid (HB.out.ext (Ext.refl _).drew lHB)
        (refine walkR_step (fun K hK => ?_); go_simp; (try (go_ints; try go_simp)); first | (refine hK _ ?_; clear hK K) | (apply Exists.intro; refine ⟨fun _ => ?_, hK _ ?_⟩; (fail); clear hK K) | (simp only [↓IntWalk.iteOmega]; (try go_simp); (try (go_ints; try go_simp)); first | (refine hK _ ?_; clear hK K) | (apply Exists.intro; refine ⟨fun _ => ?_, hK _ ?_⟩; (fail); clear hK K))); (refine walkR_step (fun K hK => ?_); go_simp; (try (go_ints; try go_simp)); first | (refine hK _ ?_; clear hK K) | (apply Exists.intro; refine ⟨fun _ => ?_, hK _ ?_⟩; (fail); clear hK K) | (simp only [↓IntWalk.iteOmega]; (try go_simp); (try (go_ints; try go_simp)); first | (refine hK _ ?_; clear hK K) | (apply Exists.intro; refine ⟨fun _ => ?_, hK _ ?_⟩; (fail); clear hK K))); (refine walkR_step (fun K hK => ?_); go_simp; (try (go_ints; try go_simp)); first | (refine hK _ ?_; clear hK K) | (apply Exists.intro; refine ⟨fun _ => ?_, hK _ ?_⟩; (fail); clear hK K) | (simp only [↓IntWalk.iteOmega]; (try go_simp); (try (go_ints; try go_simp)); first | (refine hK _ ?_; clear hK K) | (apply Exists.intro; refine ⟨fun _ => ?_, hK _ ?_⟩; (fail); clear hK K))); (refine walkR_step (fun K hK => ?_); go_simp; (try (go_ints; try go_simp)); first | (refine hK _ ?_; clear hK K) | (apply Exists.intro; refine ⟨fun _ => ?_, hK _ ?_⟩; (fail); clear hK K) | (simp only [↓IntWalk.iteOmega]; (try go_simp); (try (go_ints; try go_simp)); first | (refine hK _ ?_; clear hK K) | (apply Exists.intro; refine ⟨fun _ => ?_, hK _ ?_⟩; (fail); clear hK K)))
        refine walkR_do rfl (fun K hK => ?_); go_simp; (try (go_ints; try go_simp)); (try simp only [anyUpon]); (go_at_call 109; refine (l2And_k k _).mono ?_; rintro e w1 ⟨rfl, hE⟩; have hO := hE.off (fun k => k = w.heap.size + 1 + 1); replace HC := Lib.hid (cur_ext HC.out hE); replace HR := Lib.hid (Arr.off (by first | exact HR.out | exact Arr.alloc HR.out _ lHR) hO (by first | exact lHR | (simp; done) | (simp; omega)) nHR); replace lHR := Nat.lt_of_lt_of_le lHR (Nat.le_trans (by first | exact Nat.le_refl _ | (simp; done) | (simp; omega)) hO.size); (try clear hrd0 hrd1 hrd2 hrd3 hrd4 hrd5 hrf0 hrf1 hrf2 hrf3 hrf4 hrf5); obtain ⟨⟨hrd0, hrd1, hrd2, hrd3, hrd4, hrd5⟩, hrf0, hrf1, hrf2, hrf3, hrf4, hrf5⟩ := HR.out.all; replace HS := Lib.hid (Arr.off (by first | exact HS.out | exact Arr.alloc HS.out _ lHS) hO (by first | exact lHS | (simp; done) | (simp; omega)) nHS); replace lHS := Nat.lt_of_lt_of_le lHS (Nat.le_trans (by first | exact Nat.le_refl _ | (simp; done) | (simp; omega)) hO.size); (try clear hsd0 hsd1 hsd2 hsd3 hsd4 hsd5 hsf0 hsf1 hsf2 hsf3 hsf4 hsf5); obtain ⟨⟨hsd0, hsd1, hsd2, hsd3, hsd4, hsd5⟩, hsf0, hsf1, hsf2, hsf3, hsf4, hsf5⟩ := HS.out.all; replace HA := Lib.hid (Arr.off (by first | exact HA.out | exact Arr.alloc HA.out _ lHA) hO (by first | exact lHA | (simp; done) | (simp; omega)) nHA); replace lHA := Nat.lt_of_lt_of_le lHA (Nat.le_trans (by first | exact Nat.le_refl _ | (simp; done) | (simp; omega)) hO.size); (try clear had0 had1 had2 had3 had4 had5 haf0 haf1 haf2 haf3 haf4 haf5); obtain ⟨⟨had0, had1, had2, had3, had4, had5⟩, haf0, haf1, haf2, haf3, haf4, haf5⟩ := HA.out.all; replace HB := Lib.hid (Arr.off (by first | exact HB.out | exact Arr.alloc HB.out _ lHB) hO (by first | exact lHB | (simp; done) | (simp; omega)) nHB); replace lHB := Nat.lt_of_lt_of_le lHB (Nat.le_trans (by first | exact Nat.le_refl _ | (simp; done) | (simp; omega)) hO.size); (try clear hbd0 hbd1 hbd2 hbd3 hbd4 hbd5 hbf0 hbf1 hbf2 hbf3 hbf4 hbf5); obtain ⟨⟨hbd0, hbd1, hbd2, hbd3, hbd4, hbd5⟩, hbf0, hbf1, hbf2, hbf3, hbf4, hbf5⟩ := HB.out.all; replace HO := Lib.hid (HO.out.trans hO); replace HOR := Lib.hid (HOR.out.trans (hO.mono (fun k hk => by first | exact hk | exact .inl hk))); clear hO hE); (first | refine ⟨_, rfl, hK _ _ HOR.out ?_⟩ | refine hK _ _ HOR.out ?_); clear hK K
        refine walkR_nil ?_; clear hgr HOR
        have hz := and36 62415 hk
        generalize k &&& 62415 = z at *
        repeat' (first | fail | go_skip | go_guarded | go_step | go_upon | go_values | (simp only []))
        obtain ⟨o1, o2, o3⟩ := two_out HR.out HS.out (by omega) HO.out (Nat.le_refl _) (by omega) r (rw z)
        exact bodyPost_ret (ret_cells2 rfl rfl rfl (load_sheet o1) (load_sheet o2)) rfl ⟨r, rw z, hr, shy_rw hz, rfl, Off.ext (Ext.refl w) o3 (fun k hk => by omega)⟩
      · go_region
        simp only [Exit.then]; rename_i hKz; refine hKz _ _ ?_; refine wp_ret ?_
        obtain ⟨o1, o2, o3⟩ := two_out HR.out HS.out (by omega) HO.out (Nat.le_refl _) (by omega) (r) (rw k); exact bodyPost_ret (ret_cells2 rfl rfl rfl (load_sheet o1.drew) (load_sheet o2.drew)) rfl ⟨_, _, hr, shy_rw hk, rfl, Off.ext (Ext.refl w) (o3.trans ((Ext.refl _).drew.off _)) (fun k hk => by omega)⟩
    · have hd : decide ((12 : Int) < (cnt k : Int)) = false := decide_eq_false (by omega)
      have hcb := cnt_le k
      have HCN := Lib.hid (fun w => l2Count_n k w)
      generalize cnt k = N at *
      repeat' (first | (clear tk2; (go_at_call 75; refine (l2Sheet_is _ _ (vs_rw k) _).mono ?_; rintro e w1 ⟨rfl, hE⟩; have hO := hE.off (fun k => k = w.heap.size + 1 + 1); replace HC := Lib.hid (cur_ext HC.out hE); replace HR := Lib.hid (Arr.off (by first | exact HR.out | exact Arr.alloc HR.out _ lHR) hO (by first | exact lHR | (simp; done) | (simp; omega)) nHR); replace lHR := Nat.lt_of_lt_of_le lHR (Nat.le_trans (by first | exact Nat.le_refl _ | (simp; done) | (simp; omega)) hO.size); (try clear hrd0 hrd1 hrd2 hrd3 hrd4 hrd5 hrf0 hrf1 hrf2 hrf3 hrf4 hrf5); obtain ⟨⟨hrd0, hrd1, hrd2, hrd3, hrd4, hrd5⟩, hrf0, hrf1, hrf2, hrf3, hrf4, hrf5⟩ := HR.out.all; replace HS := Lib.hid (Arr.off (by first | exact HS.out | exact Arr.alloc HS.out _ lHS) hO (by first | exact lHS | (simp; done) | (simp; omega)) nHS); replace lHS := Nat.lt_of_lt_of_le lHS (Nat.le_trans (by first | exact Nat.le_refl _ | (simp; done) | (simp; omega)) hO.size); (try clear hsd0 hsd1 hsd2 hsd3 hsd4 hsd5 hsf0 hsf1 hsf2 hsf3 hsf4 hsf5); obtain ⟨⟨hsd0, hsd1, hsd2, hsd3, hsd4, hsd5⟩, hsf0, hsf1, hsf2, hsf3, hsf4, hsf5⟩ := HS.out.all; replace HA := Lib.hid (Arr.off (by first | exact HA.out | exact Arr.alloc HA.out _ lHA) hO (by first | exact lHA | (simp; done) | (simp; omega)) nHA); replace lHA := Nat.lt_of_lt_of_le lHA (Nat.le_trans (by first | exact Nat.le_refl _ | (simp; done) | (simp; omega)) hO.size); (try clear had0 had1 had2 had3 had4 had5 haf0 haf1 haf2 haf3 haf4 haf5); obtain ⟨⟨had0, had1, had2, had3, had4, had5⟩, haf0, haf1, haf2, haf3, haf4, haf5⟩ := HA.out.all; replace HB := Lib.hid (Arr.off (by first | exact HB.out | exact Arr.alloc HB.out _ lHB) hO (by first | exact lHB | (simp; done) | (simp; omega)) nHB); replace lHB := Nat.lt_of_lt_of_le lHB (Nat.le_trans (by first | exact Nat.le_refl _ | (simp; done) | (simp; omega)) hO.size); (try clear hbd0 hbd1 hbd2 hbd3 hbd4 hbd5 hbf0 hbf1 hbf2 hbf3 hbf4 hbf5); obtain ⟨⟨hbd0, hbd1, hbd2, hbd3, hbd4, hbd5⟩, hbf0, hbf1, hbf2, hbf3, hbf4, hbf5⟩ := HB.out.all; replace HO := Lib.hid (HO.out.trans hO); clear hO hE)) | (go_at_call 104; refine (HCN.out _).mono ?_; rintro e w1 ⟨rfl, hE⟩; have hO := hE.off (fun k => k = w.heap.size + 1 + 1); replace HC := Lib.hid (cur_ext HC.out hE); replace HR := Lib.hid (Arr.off (by first | exact HR.out | exact Arr.alloc HR.out _ lHR) hO (by first | exact lHR | (simp; done) | (simp; omega)) nHR); replace lHR := Nat.lt_of_lt_of_le lHR (Nat.le_trans (by first | exact Nat.le_refl _ | (simp; done) | (simp; omega)) hO.size); (try clear hrd0 hrd1 hrd2 hrd3 hrd4 hrd5 hrf0 hrf1 hrf2 hrf3 hrf4 hrf5); obtain ⟨⟨hrd0, hrd1, hrd2, hrd3, hrd4, hrd5⟩, hrf0, hrf1, hrf2, hrf3, hrf4, hrf5⟩ := HR.out.all; replace HS := Lib.hid (Arr.off (by first | exact HS.out | exact Arr.alloc HS.out _ lHS) hO (by first | exact lHS | (simp; done) | (simp; omega)) nHS); replace lHS := Nat.lt_of_lt_of_le lHS (Nat.le_trans (by first | exact Nat.le_refl _ | (simp; done) | (simp; omega)) hO.size); (try clear hsd0 hsd1 hsd2 hsd3 hsd4 hsd5 hsf0 hsf1 hsf2 hsf3 hsf4 hsf5); obtain ⟨⟨hsd0, hsd1, hsd2, hsd3, hsd4, hsd5⟩, hsf0, hsf1, hsf2, hsf3, hsf4, hsf5⟩ := HS.out.all; replace HA := Lib.hid (Arr.off (by first | exact HA.out | exact Arr.alloc HA.out _ lHA) hO (by first | exact lHA | (simp; done) | (simp; omega)) nHA); replace lHA := Nat.lt_of_lt_of_le lHA (Nat.le_trans (by first | exact Nat.le_refl _ | (simp; done) | (simp; omega)) hO.size); (try clear had0 had1 had2 had3 had4 had5 haf0 haf1 haf2 haf3 haf4 haf5); obtain ⟨⟨had0, had1, had2, had3, had4, had5⟩, haf0, haf1, haf2, haf3, haf4, haf5⟩ := HA.out.all; replace HB := Lib.hid (Arr.off (by first | exact HB.out | exact Arr.alloc HB.out _ lHB) hO (by first | exact lHB | (simp; done) | (simp; omega)) nHB); replace lHB := Nat.lt_of_lt_of_le lHB (Nat.le_trans (by first | exact Nat.le_refl _ | (simp; done) | (simp; omega)) hO.size); (try clear hbd0 hbd1 hbd2 hbd3 hbd4 hbd5 hbf0 hbf1 hbf2 hbf3 hbf4 hbf5); obtain ⟨⟨hbd0, hbd1, hbd2, hbd3, hbd4, hbd5⟩, hbf0, hbf1, hbf2, hbf3, hbf4, hbf5⟩ := HB.out.all; replace HO := Lib.hid (HO.out.trans hO); clear hO hE) | go_skip | go_guarded | go_step | go_upon | go_values | (simp only []))
      go_region
      simp only [Exit.then]; rename_i hKz; refine hKz _ _ ?_; refine wp_ret ?_
      obtain ⟨o1, o2, o3⟩ := two_out HR.out HS.out (by omega) HO.out (Nat.le_refl _) (by omega) (r) (rw k); exact bodyPost_ret (ret_cells2 rfl rfl rfl (load_sheet o1.drew) (load_sheet o2.drew)) rfl ⟨_, _, hr, shy_rw hk, rfl, Off.ext (Ext.refl w) (o3.trans ((Ext.refl _).drew.off _)) (fun k hk => by omega)⟩
end Go.Proofs.Ytlifhoajamnehaa
set_option linter.unusedVariables false
set_option linter.unusedSimpArgs false
set_option maxRecDepth 100000
set_option maxHeartbeats 2000000
namespace Go.Proofs.Ytlifhoajamnehaa
open Go Go.RowKit Instr
theorem info_u8 : (Try.prog.info? 5).map (fun i => (i.zero, i.size, i.bytes)) = some (some (.int .u8 0), 1, 1) := by kernel_rfl
/-- the second append: the bytes behind one another -/
theorem push_u8 {w w1 : World} {L : List Nat} {v1 : Value} (q : Nat) (hq : q < 256) (hL : ∀ x ∈ L, x < 256) (hx : Ext w w1) (ho : w1.ownsRow w.heap.size 5 1 v1 L.length (byv L)) :
    (w1.alloc (.cells #[.int .u8 (q : Nat)] 5)).ownsRow w.heap.size 5 1 v1 L.length (byv L) ∧ (∀ j u, ([.int .u8 (q : Nat)] : List Value)[j]? = some u → (w1.alloc (.cells #[.int .u8 (q : Nat)] 5)).cell? ((⟨w1.heap.size, 0, none⟩ : Addr).add j) = some u) ∧
    ∀ v2 w2, w2.ownsRow w.heap.size 5 1 v2 (L.length + 1) (byv L ++ [.int .u8 (q : Nat)]) → (w1.alloc (.cells #[.int .u8 (q : Nat)] 5)).grownBy w2 v1.ownBlock → Ext w w2 ∧ Byt w2 w2.heap.size v2 (L.length + 1) := by
  have h1 := own_ext ho ((Ext.refl w1).alloc (.cells #[.int .u8 (q : Nat)] 5))
  refine ⟨h1, fun j u h => ?_, fun v2 w2 h2 h3 => ⟨?_, ?_⟩⟩
  · rw [Go.WideShapes.add_plain, Nat.zero_add]
    refine (World.cell?_alloc_at _ _ _ _ rfl).trans ?_
    cases j with
    | zero => simpa using h
    | succ j => simp at h
  · exact .of ((hx.alloc (.cells #[.int .u8 (q : Nat)] 5)).below.grown h3 (by have := hx.size; simp; omega) (fun k hk => by have := (h1.lt k hk).1; omega))
  · have he : byv L ++ [.int .u8 (q : Nat)] = byv (L ++ [q]) := by unfold byv; simp
    have hl : L.length + 1 = (L ++ [q]).length := by simp
    rw [he, hl] at h2
    rw [hl]
    exact byt_own h2 (fun x hx => by rcases List.mem_append.1 hx with h | h; exact hL x h; simp at h; omega)
theorem end_u8 (w : World) (q : Nat) (hq : q < 256) (c : Nat) (Y : Array Value) (n : Nat) : ∃ u m, Ending.returned (Value.slice (some ⟨w.heap.size + 1 + 1, 0, none⟩) 1 c) = .returned u ∧ Ext w ((((w.alloc (.cells #[] 5)).alloc (.cells #[.int .u8 (q : Nat)] 5)).alloc (.cells (#[.int .u8 (q : Nat)] ++ Y) 5)).drew) ∧
    Byt ((((w.alloc (.cells #[] 5)).alloc (.cells #[.int .u8 (q : Nat)] 5)).alloc (.cells (#[.int .u8 (q : Nat)] ++ Y) 5)).drew) ((((w.alloc (.cells #[] 5)).alloc (.cells #[.int .u8 (q : Nat)] 5)).alloc (.cells (#[.int .u8 (q : Nat)] ++ Y) 5)).drew).heap.size u m ∧ m ≤ n + 1 := by
  refine ⟨_, 1, rfl, (by (repeat' (first | (with_reducible exact Ext.refl _) | (with_reducible assumption) | (with_reducible refine Ext.alloc ?_ _) | (with_reducible refine Ext.drew ?_) | (with_reducible refine Ext.drewN ?_ _) | (with_reducible refine Ext.setCell ?_ ?_ _) | (with_reducible refine Ext.trans ?_ (by assumption)))) <;> (first | (with_reducible assumption) | omega | (simp; done) | (simp; omega))), ⟨_, _, rfl, fun _ => ⟨w.heap.size + 1 + 1, 0, rfl, by simp, fun j hj => ⟨q, hq, ?_⟩⟩⟩, by omega⟩
  obtain rfl : j = 0 := by omega
  have h : (((w.alloc (.cells #[] 5)).alloc (.cells #[.int .u8 (q : Nat)] 5)).alloc (.cells (#[.int .u8 (q : Nat)] ++ Y) 5)).cell? ⟨w.heap.size + 1 + 1, 0, none⟩ = _ := World.cell?_alloc_at _ _ _ _ (by simp)
  refine h.trans ?_
  rw [Array.getElem?_append_left (by simp)]
  rfl
theorem vCut_n (k : Nat) (hk : k ≤ 2) (v : Value) (n : Nat) (hn : n ≤ 65536) (hcap : capOk v) (w : World) (hv : Byt w w.heap.size v n) : Calls Try.prog 17 #[v, .int .i64 (k : Nat)] w fun e w' => ∃ u m, e = .returned u ∧ Ext w w' ∧ Byt w' w'.heap.size u m ∧ m ≤ n + 1 := by
  obtain ⟨i0, hi, iz0, iz1, iz2⟩ := info_parts info_u8
  obtain ⟨ao, cap, rfl, hs⟩ := hv
  have hc : n ≤ cap := hcap _ _ _ rfl
  clear hcap
  by_cases hkn : n ≤ k
  · have HE := Lib.hid (fun q hq c Y => end_u8 w q hq c Y n)
    clear hs
    by_cases hlt : n < k
    · cases ao
      all_goals
        go_enter Try.func17, Try.ntmps17
        go_wp2
      all_goals
        go_returns
        exact HE.out n (by omega) _ _
    · obtain rfl : n = k := by omega
      cases ao
      all_goals
        go_enter Try.func17, Try.ntmps17
        go_wp2
      all_goals
        go_returns
        exact HE.out n (by omega) _ _
  · obtain ⟨b, o, rfl, hb, hcl⟩ := hs (by omega)
    obtain ⟨L, h1, h2, h3⟩ := byt_list (C := 0) hcl
    have HL0 := Lib.hid (show (L.drop k).length = n - k by rw [List.length_drop]; omega)
    have HLB := Lib.hid (show ∀ x ∈ L.drop k, x < 256 from fun x hx => h2 x (List.mem_of_mem_drop hx))
    have HLC := Lib.hid (show ∀ j u, (byv (L.drop k))[j]? = some u → (w.alloc (.cells #[] 5)).cell? ((⟨b, o + k, none⟩ : Addr).add j) = some u from fun j u h => by
      obtain ⟨x, hx, rfl⟩ := byv_of _ j u h
      rw [List.getElem?_drop] at hx
      rw [Go.WideShapes.add_plain, Nat.add_assoc]
      exact (((Ext.refl w).alloc _).cells b _ hb).trans (h3 _ _ hx))
    have HLL := Lib.hid (show (byv (L.drop k)).length = (n - k) * 1 by rw [byv_length, HL0.out, Nat.mul_one])
    have HE := Lib.hid (own_empty w 5 1 w.heap.size (Nat.le_refl _) rfl)
    clear h1 h2 h3 hcl hs
    generalize L.drop k = R at *
    have hck : ¬ cap = k := by omega
    have tk0 := Lib.hid True.intro
    go_enter Try.func17, Try.ntmps17
    go_wp2_with (first | (clear tk0; (at_builtin; refine wpList_append_own _ (by rfl) _ _ 22 (by rfl) w.heap.size 5 i0 (.int .u8 0) 1 1 Try.underlying22 hi iz0 iz1 iz2 (by rfl) (by decide) _ _ _ (by rfl) HE.out ⟨b, o + k, none⟩ (n - k) (cap - k) (byv R) (by rfl) HLL.out HLC.out (byv_one R) (by unfold maxLen; omega) (by omega) (by simp) ?_; intro v1 w1 hown hgrow _; have HX := Lib.hid (show Ext w w1 from .of (((Ext.refl w).alloc (.cells #[] 5)).below.grown hgrow (by simp) (fun k hk => by have := (HE.out.lt k hk).1; omega))); rw [Nat.zero_add, List.nil_append, ← HL0.out] at hown; obtain ⟨v1o, v1c, rfl, _⟩ := own_shape hown; have HP := Lib.hid (push_u8 k (by omega) HLB.out HX.out hown); clear hown hgrow; obtain ⟨wa, rfl⟩ : ∃ x, x = w1 := ⟨_, rfl⟩)) | (at_builtin; go_loud (refine wpList_append_own _ (by rfl) _ _ 22 (by rfl) w.heap.size 5 i0 (.int .u8 0) 1 1 Try.underlying22 hi iz0 iz1 iz2 (by rfl) (by decide) _ _ _ (by rfl) HP.out.1 ⟨wa.heap.size, 0, none⟩ 1 1 [.int .u8 (k : Nat)] (by rfl) (by rfl) HP.out.2.1 (fun u h => by simp at h; subst h; rfl) (by have := HL0.out; unfold maxLen; omega) (by have := HL0.out; omega) (by have := HX.out.size; simp; omega) ?_; intro v2 w2 hown hgrow _; have HQ := Lib.hid (HP.out.2.2 v2 w2 hown hgrow))))
    go_returns
    exact ⟨_, _, rfl, HQ.out.1, HQ.out.2, by have := HL0.out; omega⟩
theorem vBig_n (b : Bool) (ao : Option Addr) (n cap : Nat) (h : decide (65536 < n) = b) (w : World) : Calls Try.prog 8 #[.slice ao n cap] w fun e w' => e = .returned (.bool b) ∧ Ext w w' := by
  subst h
  go_enter Try.func8, Try.ntmps8
  go_wp2
  go_returns
  exact ⟨by simp; omega, (by (repeat' (first | (with_reducible exact Ext.refl _) | (with_reducible assumption) | (with_reducible refine Ext.alloc ?_ _) | (with_reducible refine Ext.drew ?_) | (with_reducible refine Ext.drewN ?_ _) | (with_reducible refine Ext.setCell ?_ ?_ _) | (with_reducible refine Ext.trans ?_ (by assumption)))) <;> (first | (with_reducible assumption) | omega | (simp; done) | (simp; omega)))⟩
theorem rBig_n (b : Bool) (ao : Option Addr) (n cap : Nat) (h : decide (65536 < n) = b) (w : World) : Calls Try.prog 66 #[.slice ao n cap] w fun e w' => e = .returned (.bool b) ∧ Ext w w' := by
  subst h
  go_enter Try.func66, Try.ntmps66
  go_wp2
  go_returns
  exact ⟨by simp; omega, (by (repeat' (first | (with_reducible exact Ext.refl _) | (with_reducible assumption) | (with_reducible refine Ext.alloc ?_ _) | (with_reducible refine Ext.drew ?_) | (with_reducible refine Ext.drewN ?_ _) | (with_reducible refine Ext.setCell ?_ ?_ _) | (with_reducible refine Ext.trans ?_ (by assumption)))) <;> (first | (with_reducible assumption) | omega | (simp; done) | (simp; omega)))⟩
end Go.Proofs.Ytlifhoajamnehaa
