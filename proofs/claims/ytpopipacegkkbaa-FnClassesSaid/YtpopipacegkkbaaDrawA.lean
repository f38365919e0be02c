/- DrawA: contracts of functions, and lemmas, for this seat. Conditions: as each states. -/
import Derived.Test.YtpopipacegkkbaaCur
set_option linter.unusedVariables false
set_option maxRecDepth 100000
set_option maxHeartbeats 2000000
namespace Go.Proofs.Ytpopipacegkkbaa
open Go Go.RowKit Instr
theorem drawCountKept_n (v : Value) (n : Nat) (w : World) (hv : Byt w w.heap.size v n) : Calls Try.prog 16 #[v] w fun e w' => ∃ x y s : Int, e = .returned (.tuple #[(.agg #[.int .i64 (x), .int .i64 (y)]), .int .i64 s]) ∧ Ext w w' ∧ (-9223372036854775808 ≤ x ∧ x ≤ 9223372036854775807) ∧ (-9223372036854775808 ≤ y ∧ y ≤ 9223372036854775807) ∧ (-1 ≤ s ∧ s ≤ 37) := by
  have HX := Lib.hid ((Ext.refl w).alloc (.cells #[.int .i64 0, .int .i64 0] 42))
  have HV := Lib.hid (byt_mono (byt_ext hv (Nat.le_refl _) HX.out) HX.out.size)
  have HC := Lib.hid (cur_new _ v n 83 HV.out)
  have hsz : (w.alloc (.cells #[.int .i64 0, .int .i64 0] 42)).heap.size = w.heap.size + 1 := by simp
  rw [hsz] at HC
  have HO := Lib.hid (HX.out.off (fun k => k = w.heap.size + 1))
  have HR := Lib.hid (Arr2.new w (fun _ => 0) 42 rfl)
  have lHR : w.heap.size < (w.alloc (.cells #[.int .i64 0, .int .i64 0] 42)).heap.size := by simp
  have nHR : ¬ (w.heap.size = w.heap.size + 1) := by omega
  obtain ⟨ao, cap, rfl, _⟩ := hv
  clear hsz HV HX
  go_enter Try.func16, Try.ntmps16
  skip
  have tk0 := Lib.hid True.intro; have tk1 := Lib.hid True.intro
  go_wp2_with (first | (clear tk0; ((go_at_call 55; refine (cell_n (w.heap.size + 1) 0 (by omega) _ (by first | exact HC.out | exact cur_ext HC.out ((Ext.refl _).alloc _) | exact cur_ext HC.out (((Ext.refl _).alloc _).alloc _))).mono ?_; rintro e w1 ⟨x, y, rfl, hx, hy, hc, hO⟩; replace HC := Lib.hid hc; clear hc; replace HR := Lib.hid (Arr2.off (by first | exact HR.out | exact Arr2.alloc HR.out _ lHR) hO (by first | exact lHR | (simp; omega)) nHR); replace lHR := Nat.lt_of_lt_of_le lHR (Nat.le_trans (by first | exact Nat.le_refl _ | (simp; done) | (simp; omega)) hO.size); (try clear hrd0 hrd1 hrf0 hrf1); obtain ⟨⟨hrd0, hrd1⟩, hrf0, hrf1⟩ := HR.out.all; replace HO := Lib.hid (Off.trans (by first | exact HO.out | exact HO.out.trans (((Ext.refl _).alloc _).off _)) hO); clear hO); have hz1 := HC.out.1; obtain ⟨wa, rfl⟩ : ∃ x, x = w1 := ⟨_, rfl⟩)) | (clear tk1; ((go_at_call 57; refine (pick_n (w.heap.size + 1) (0 + 6) 24 (by omega) (by omega) (by omega) _ (by first | exact HC.out | exact cur_ext HC.out ((Ext.refl _).alloc _) | exact cur_ext HC.out (((Ext.refl _).alloc _).alloc _))).mono ?_; rintro e w1 ⟨q, rfl, hq, hc, hO⟩; replace HC := Lib.hid hc; clear hc; replace HR := Lib.hid (Arr2.off (by first | exact HR.out | exact Arr2.alloc HR.out _ lHR) hO (by first | exact lHR | (simp; omega)) nHR); replace lHR := Nat.lt_of_lt_of_le lHR (Nat.le_trans (by first | exact Nat.le_refl _ | (simp; done) | (simp; omega)) hO.size); (try clear hrd0 hrd1 hrf0 hrf1); obtain ⟨⟨hrd0, hrd1⟩, hrf0, hrf1⟩ := HR.out.all; replace HO := Lib.hid (Off.trans (by first | exact HO.out | exact HO.out.trans (((Ext.refl _).alloc _).off _)) hO); have HL := Lib.hid (fun n hn => lst_off (lst_new wa (w.heap.size + 1) [6, 4, 2, 3, 12, 18, 0, 36, 1, 37, -1] 3 hz1 n 11 hn) hO); clear hO); obtain ⟨z, hz, hz2⟩ : ∃ z : Nat, q / 11 = z ∧ z ≤ 2 := ⟨_, rfl, by omega⟩; have hzi : (q : Int) / 11 = (z : Nat) := (by omega); clear hz)) | (go_at_call 56; refine (among_n (w.heap.size + 1) (0 + 6 + 2) (List.take (9 + z) [6, 4, 2, 3, 12, 18, 0, 36, 1, 37, -1]) (by rw [List.length_take]; simp; omega) (by rw [List.length_take]; simp; omega) (by omega) _ _ HC.out (HL.out (9 + z) (by simp; omega))).mono ?_; rintro e w1 ⟨s, hs, rfl, hc, hO⟩; replace HC := Lib.hid hc; clear hc; replace HR := Lib.hid (Arr2.off (by first | exact HR.out | exact Arr2.alloc HR.out _ lHR) hO (by first | exact lHR | (simp; omega)) nHR); replace lHR := Nat.lt_of_lt_of_le lHR (Nat.le_trans (by first | exact Nat.le_refl _ | (simp; done) | (simp; omega)) hO.size); (try clear hrd0 hrd1 hrf0 hrf1); obtain ⟨⟨hrd0, hrd1⟩, hrf0, hrf1⟩ := HR.out.all; replace HO := Lib.hid (Off.trans (by first | exact HO.out | exact HO.out.trans (((Ext.refl _).alloc _).off _)) hO); clear hO))
  have hs1 : -1 ≤ s ∧ s ≤ 37 := by have := List.mem_of_mem_take hs; simp at this; omega
  exact bodyPost_ret (ret_cell_tmp rfl rfl rfl (load_two (HR.out.two x y))) rfl ⟨x, y, s, rfl, Off.ext (Ext.refl w) ((HO.out.new (by show w.heap.size ≤ w.heap.size; omega) _).new (by show w.heap.size ≤ w.heap.size; omega) _) (fun k hk => by omega), hx, hy, hs1⟩
theorem drawCountClasses_n (v : Value) (n : Nat) (w : World) (hv : Byt w w.heap.size v n) : Calls Try.prog 21 #[v] w fun e w' => ∃ s : Int, e = .returned (.int .i64 s) ∧ Ext w w' ∧ (-1 ≤ s ∧ s ≤ 37) := by
  have HC := Lib.hid (cur_new _ v n 83 hv)
  have HO := Lib.hid (((Ext.refl w).alloc (.cells #[v, .int .i64 0, .int .u64 0] 83)).off (fun k => k = w.heap.size))
  obtain ⟨ao, cap, rfl, _⟩ := hv
  skip
  have tk0 := Lib.hid True.intro
  go_enter Try.func21, Try.ntmps21
  go_wp2_with (first | (clear tk0; ((go_at_call 57; refine (pick_n w.heap.size 0 24 (by omega) (by omega) (by omega) _ (by first | exact HC.out | exact cur_ext HC.out ((Ext.refl _).alloc _) | exact cur_ext HC.out (((Ext.refl _).alloc _).alloc _))).mono ?_; rintro e w1 ⟨q, rfl, hq, hc, hO⟩; replace HC := Lib.hid hc; clear hc; replace HO := Lib.hid (Off.trans (by first | exact HO.out | exact HO.out.trans (((Ext.refl _).alloc _).off _)) hO); have HL := Lib.hid (fun u hu => lst_off (lst_newb (w.alloc (.cells #[.slice ao n cap, .int .i64 0, .int .u64 0] 83)) w.heap.size [2, 3, 4, 1, 0, 6, 18, 36, 37, -1] 3 (by simp) u 10 hu (w.heap.size + 1) (by simp)) hO); clear hO); obtain ⟨z, hz, hz2⟩ : ∃ z : Nat, q / 11 = z ∧ z ≤ 2 := ⟨_, rfl, by omega⟩; have hzi : (q : Int) / 11 = (z : Nat) := (by omega); clear hz)) | (go_at_call 56; refine (among_n w.heap.size (0 + 2) (List.take (8 + z) [2, 3, 4, 1, 0, 6, 18, 36, 37, -1]) (by rw [List.length_take]; simp; omega) (by rw [List.length_take]; simp; omega) (by omega) _ _ HC.out (HL.out (8 + z) (by simp; omega))).mono ?_; rintro e w1 ⟨s, hs, rfl, hc, hO⟩; replace HC := Lib.hid hc; clear hc; replace HO := Lib.hid (Off.trans (by first | exact HO.out | exact HO.out.trans (((Ext.refl _).alloc _).off _)) hO); clear hO))
  go_returns
  have hs1 : -1 ≤ s ∧ s ≤ 37 := by have := List.mem_of_mem_take hs; simp at this; omega
  exact ⟨s, rfl, Off.ext (Ext.refl w) HO.out (fun k hk => by omega), hs1⟩
end Go.Proofs.Ytpopipacegkkbaa
