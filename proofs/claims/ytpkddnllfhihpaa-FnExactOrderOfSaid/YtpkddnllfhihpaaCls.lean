/- Cls: contracts of functions, and lemmas, for this seat. Conditions: as each states. -/
import Derived.Test.YtpkddnllfhihpaaBase
import Derived.Test.YtpkddnllfhihpaaMathB
set_option linter.unusedVariables false
namespace Go.Proofs.Ytpkddnllfhihpaa
open Go Go.RowKit
theorem chz_bd (n k : Nat) (hn : n < 37) (hk : k < 37) : 0 ≤ (chz n k : Int) * ((n : Int) - (k : Int)) + 370000000000 ∧ (chz n k : Int) * ((n : Int) - (k : Int)) ≤ 370000000000 := by
  have h := chz_le n hn k hk
  have h1 : (chz n k : Int) ≤ 10000000000 := by omega
  have h0 : (0 : Int) ≤ (chz n k : Int) := Int.natCast_nonneg _
  have e : (chz n k : Int) * ((n : Int) - (k : Int)) = (chz n k : Int) * (n : Int) - (chz n k : Int) * (k : Int) := Int.mul_sub _ _ _
  have a1 : (chz n k : Int) * (n : Int) ≤ 10000000000 * 37 := Int.mul_le_mul h1 (by omega) (by omega) (by omega)
  have a2 : (chz n k : Int) * (k : Int) ≤ 10000000000 * 37 := Int.mul_le_mul h1 (by omega) (by omega) (by omega)
  have a3 : (0 : Int) ≤ (chz n k : Int) * (n : Int) := Int.mul_nonneg h0 (by omega)
  have a4 : (0 : Int) ≤ (chz n k : Int) * (k : Int) := Int.mul_nonneg h0 (by omega)
  omega
theorem okO_m6 (x y k : Nat) : okO x y k = (decide (m6 ((k : Int) * (x : Int)) = 0) && decide (m6 ((k : Int) * (y : Int)) = 0)) := by
  rw [okO_int]
  have e1 : (m6 ((k : Int) * (x : Int)) = 0) ↔ ((k : Int) * (x : Int) % 6 = 0) := by rw [← m6_eq]; omega
  have e2 : (m6 ((k : Int) * (y : Int)) = 0) ↔ ((k : Int) * (y : Int) % 6 = 0) := by rw [← m6_eq]; omega
  simp only [e1, e2]
theorem okC_inR (x y : Int) : okC x y = (inR x 0 5 && inR y 0 5) := by
  unfold okC inR
  rw [Bool.eq_iff_iff]
  simp only [Bool.and_eq_true, decide_eq_true_eq]
  omega
theorem okC_iff (x y : Int) : okC x y = true ↔ (0 ≤ x ∧ x < 6) ∧ 0 ≤ y ∧ y < 6 := by
  unfold okC
  simp only [Bool.and_eq_true, decide_eq_true_eq]
  omega
theorem l2Cell_any (x y : Int) (w : World) : Calls Try.prog 59 #[(.agg #[.int .i64 (x), .int .i64 (y)])] w fun e w' => e = .returned (.bool (okC x y)) ∧ Ext w w' := by
  go_enter Try.func59, Try.ntmps59
  have HC := Lib.hid (okC_inR x y)
  by_cases h : inR x 0 5 = true
  · go_wp2_with (go_at_call 65; refine (l1In_any _ _ _ _).mono ?_; rintro e w' ⟨rfl, rfl⟩)
    go_ret
    exact ⟨ret_bool (by rw [HC.out, h]; rfl), (by (repeat (first | exact Ext.refl _ | assumption | refine Ext.alloc ?_ _ | refine Ext.drew ?_ | refine Ext.drewN ?_ _ | refine Ext.trans ?_ (by assumption) | refine Ext.setCell ?_ ?_ _)) <;> (first | assumption | omega | (simp; done) | (simp; omega)))⟩
  · go_wp2_with (go_at_call 65; refine (l1In_any _ _ _ _).mono ?_; rintro e w' ⟨rfl, rfl⟩)
    go_ret
    exact ⟨ret_bool (by rw [HC.out]; simp [h]), (by (repeat (first | exact Ext.refl _ | assumption | refine Ext.alloc ?_ _ | refine Ext.drew ?_ | refine Ext.drewN ?_ _ | refine Ext.trans ?_ (by assumption) | refine Ext.setCell ?_ ?_ _)) <;> (first | assumption | omega | (simp; done) | (simp; omega)))⟩
theorem l7Vector_any (x y : Int) (w : World) : Calls Try.prog 50 #[(.agg #[.int .i64 (x), .int .i64 (y)])] w fun e w' => e = .returned (.bool (okC x y)) ∧ Ext w w' := by
  go_enter Try.func50, Try.ntmps50
  go_wp2_with (go_at_call 59; refine (l2Cell_any _ _ _).mono ?_; rintro e w1 ⟨rfl, hE⟩)
  go_ret
  exact ⟨rfl, (by (repeat (first | exact Ext.refl _ | assumption | refine Ext.alloc ?_ _ | refine Ext.drew ?_ | refine Ext.drewN ?_ _ | refine Ext.trans ?_ (by assumption) | refine Ext.setCell ?_ ?_ _)) <;> (first | assumption | omega | (simp; done) | (simp; omega)))⟩
theorem l7Vector_is (x y : Int) (b : Bool) (h : okC x y = b) (w : World) : Calls Try.prog 50 #[(.agg #[.int .i64 (x), .int .i64 (y)])] w fun e w' => e = .returned (.bool b) ∧ Ext w w' := h ▸ l7Vector_any x y w
theorem isSize_any (n : Int) (w : World) : Calls Try.prog 67 #[.int .i64 n] w fun e w' => e = .returned (.bool (inR n 0 36)) ∧ w = w' := by
  go_enter Try.func67, Try.ntmps67
  go_wp2
  all_goals (go_ret; exact ⟨ret_bool (by unfold inR; simp; omega), rfl⟩)
theorem orderOf_any (x y : Nat) (hx : x < 6) (hy : y < 6) (w : World) : Calls Try.prog 53 #[(.agg #[.int .i64 ((x : Int)), .int .i64 ((y : Int))])] w fun e w' => e = .returned (.int .i64 (ordN x y : Int)) ∧ Ext w w' := by
  obtain ⟨f1, f2, f3, _, _, f4⟩ := ord_facts x hx y hy
  have H1 := Lib.hid f1
  have H4 := Lib.hid f4
  clear f1 f4
  go_enter Try.func53, Try.ntmps53
  go_wp2
  go_loop [3] (fun v => ∃ k : Nat, 1 ≤ k ∧ k ≤ ordN x y ∧ v = .int .i64 k) (fun v => 6 - (intOf v).toNat)
  case atStart => exact ⟨1, by omega, f2, rfl⟩
  case round =>
    obtain ⟨k, h1, h2, rfl⟩ := hrel
    have px : (k : Int) * (x : Int) ≤ 6 * 6 := Int.mul_le_mul (by omega) (by omega) (by omega) (by omega)
    have py : (k : Int) * (y : Int) ≤ 6 * 6 := Int.mul_le_mul (by omega) (by omega) (by omega) (by omega)
    have qx : (0 : Int) ≤ (k : Int) * (x : Int) := Int.mul_nonneg (by omega) (by omega)
    have qy : (0 : Int) ≤ (k : Int) * (y : Int) := Int.mul_nonneg (by omega) (by omega)
    have H5 := Lib.hid (okO_int x y k)
    rcases Nat.lt_or_ge k (ordN x y) with hlt | hge
    · have h6 := H4.out k (by omega) h1 hlt
      rw [H5.out, Bool.and_eq_false_iff, decide_eq_false_iff_not, decide_eq_false_iff_not] at h6
      by_cases t1 : (k : Int) * (x : Int) % 6 = 0
      · have t2 : ¬ (k : Int) * (y : Int) % 6 = 0 := h6.resolve_left (fun h => h t1)
        clear h6
        go_wp2
        all_goals exact ⟨⟨k + 1, by omega, by omega, by go_num⟩, by simp [intOf]; omega⟩
      · clear h6
        go_wp2
        all_goals exact ⟨⟨k + 1, by omega, by omega, by go_num⟩, by simp [intOf]; omega⟩
    · obtain rfl : k = ordN x y := by omega
      have h6 := H1.out
      rw [H5.out, Bool.and_eq_true, decide_eq_true_eq, decide_eq_true_eq] at h6
      obtain ⟨t1, t2⟩ := h6
      go_wp2
      go_ret
      exact ⟨rfl, (by (repeat (first | exact Ext.refl _ | assumption | refine Ext.alloc ?_ _ | refine Ext.drew ?_ | refine Ext.drewN ?_ _ | refine Ext.trans ?_ (by assumption) | refine Ext.setCell ?_ ?_ _)) <;> (first | assumption | omega | (simp; done) | (simp; omega)))⟩
theorem l7Order_any (x y : Nat) (hx : x < 6) (hy : y < 6) (w : World) : Calls Try.prog 51 #[(.agg #[.int .i64 ((x : Int)), .int .i64 ((y : Int))])] w fun e w' => e = .returned (.int .i64 (ordN x y : Int)) ∧ Ext w w' := by
  obtain ⟨f1, f2, f3, _, _, f4⟩ := ord_facts x hx y hy
  have H1 := Lib.hid f1
  have H4 := Lib.hid f4
  clear f1 f4
  go_enter Try.func51, Try.ntmps51
  go_wp2
  go_loop [3] (fun v => ∃ k : Nat, 1 ≤ k ∧ k ≤ ordN x y ∧ v = .int .i64 k) (fun v => 6 - (intOf v).toNat)
  case atStart => exact ⟨1, by omega, f2, rfl⟩
  case round =>
    obtain ⟨k, h1, h2, rfl⟩ := hrel
    have px : (k : Int) * (x : Int) ≤ 6 * 6 := Int.mul_le_mul (by omega) (by omega) (by omega) (by omega)
    have py : (k : Int) * (y : Int) ≤ 6 * 6 := Int.mul_le_mul (by omega) (by omega) (by omega) (by omega)
    have qx : (0 : Int) ≤ (k : Int) * (x : Int) := Int.mul_nonneg (by omega) (by omega)
    have qy : (0 : Int) ≤ (k : Int) * (y : Int) := Int.mul_nonneg (by omega) (by omega)
    have H5 := Lib.hid (okO_m6 x y k)
    rcases Nat.lt_or_ge k (ordN x y) with hlt | hge
    · have h6 := H4.out k (by omega) h1 hlt
      rw [H5.out, Bool.and_eq_false_iff, decide_eq_false_iff_not, decide_eq_false_iff_not] at h6
      by_cases t1 : m6 ((k : Int) * (x : Int)) = 0
      · have t2 : ¬ m6 ((k : Int) * (y : Int)) = 0 := h6.resolve_left (fun h => h t1)
        clear h6
        go_wp2_with (go_at_call 83; refine (l2Mod_any _ _).mono ?_; rintro e w' ⟨rfl, rfl⟩)
        all_goals exact ⟨⟨k + 1, by omega, by omega, by go_num⟩, by simp [intOf]; omega⟩
      · clear h6
        go_wp2_with (go_at_call 83; refine (l2Mod_any _ _).mono ?_; rintro e w' ⟨rfl, rfl⟩)
        all_goals exact ⟨⟨k + 1, by omega, by omega, by go_num⟩, by simp [intOf]; omega⟩
    · obtain rfl : k = ordN x y := by omega
      have h6 := H1.out
      rw [H5.out, Bool.and_eq_true, decide_eq_true_eq, decide_eq_true_eq] at h6
      obtain ⟨t1, t2⟩ := h6
      go_wp2_with (go_at_call 83; refine (l2Mod_any _ _).mono ?_; rintro e w' ⟨rfl, rfl⟩)
      go_ret
      exact ⟨rfl, (by (repeat (first | exact Ext.refl _ | assumption | refine Ext.alloc ?_ _ | refine Ext.drew ?_ | refine Ext.drewN ?_ _ | refine Ext.trans ?_ (by assumption) | refine Ext.setCell ?_ ?_ _)) <;> (first | assumption | omega | (simp; done) | (simp; omega)))⟩
theorem OrderOf_bad (x y : Int) (h : okC x y = false) (w : World) : Calls Try.prog 17 #[(.agg #[.int .i64 (x), .int .i64 (y)])] w fun e w' => e = .returned (.tuple #[.int .i64 0, .bool false]) ∧ Ext w w' := by
  have H := Lib.hid h
  clear h
  go_enter Try.func17, Try.ntmps17
  go_wp2_with (go_at_call 52; refine (isCell_is _ _ _ H.out _).mono ?_; rintro e w1 ⟨rfl, hE⟩)
  go_ret2
  exact ⟨rfl, (by (repeat (first | exact Ext.refl _ | assumption | refine Ext.alloc ?_ _ | refine Ext.drew ?_ | refine Ext.drewN ?_ _ | refine Ext.trans ?_ (by assumption) | refine Ext.setCell ?_ ?_ _)) <;> (first | assumption | omega | (simp; done) | (simp; omega)))⟩
theorem OrderOf_ok (x y : Nat) (hx : x < 6) (hy : y < 6) (w : World) : Calls Try.prog 17 #[(.agg #[.int .i64 ((x : Int)), .int .i64 ((y : Int))])] w fun e w' => e = .returned (.tuple #[.int .i64 (ordN x y : Int), .bool true]) ∧ Ext w w' := by
  have H := Lib.hid ((okC_iff x y).2 (by omega))
  go_enter Try.func17, Try.ntmps17
  go_wp2_with (first | (go_at_call 52; refine (isCell_is _ _ _ H.out _).mono ?_; rintro e w1 ⟨rfl, hE⟩; have hEc := hE.cells; have hEf := hE.frees; have hEz := hE.size) | (go_at_call 53; refine (orderOf_any x y hx hy _).mono ?_; rintro e w1 ⟨rfl, hE⟩))
  go_ret2
  exact ⟨rfl, (by (repeat (first | exact Ext.refl _ | assumption | refine Ext.alloc ?_ _ | refine Ext.drew ?_ | refine Ext.drewN ?_ _ | refine Ext.trans ?_ (by assumption) | refine Ext.setCell ?_ ?_ _)) <;> (first | assumption | omega | (simp; done) | (simp; omega)))⟩
theorem sOrderOf_bad (x y : Int) (h : okC x y = false) (w : World) : Calls Try.prog 15 #[(.agg #[.int .i64 (x), .int .i64 (y)])] w fun e w' => e = .returned (.tuple #[.int .i64 0, .bool false]) ∧ Ext w w' := by
  have H := Lib.hid h
  clear h
  go_enter Try.func15, Try.ntmps15
  go_wp2_with (go_at_call 50; refine (l7Vector_is _ _ _ H.out _).mono ?_; rintro e w1 ⟨rfl, hE⟩)
  go_ret2
  exact ⟨rfl, (by (repeat (first | exact Ext.refl _ | assumption | refine Ext.alloc ?_ _ | refine Ext.drew ?_ | refine Ext.drewN ?_ _ | refine Ext.trans ?_ (by assumption) | refine Ext.setCell ?_ ?_ _)) <;> (first | assumption | omega | (simp; done) | (simp; omega)))⟩
theorem sOrderOf_ok (x y : Nat) (hx : x < 6) (hy : y < 6) (w : World) : Calls Try.prog 15 #[(.agg #[.int .i64 ((x : Int)), .int .i64 ((y : Int))])] w fun e w' => e = .returned (.tuple #[.int .i64 (ordN x y : Int), .bool true]) ∧ Ext w w' := by
  have H := Lib.hid ((okC_iff x y).2 (by omega))
  go_enter Try.func15, Try.ntmps15
  go_wp2_with (first | (go_at_call 50; refine (l7Vector_is _ _ _ H.out _).mono ?_; rintro e w1 ⟨rfl, hE⟩; have hEc := hE.cells; have hEf := hE.frees; have hEz := hE.size) | (go_at_call 51; refine (l7Order_any x y hx hy _).mono ?_; rintro e w1 ⟨rfl, hE⟩))
  go_ret2
  exact ⟨rfl, (by (repeat (first | exact Ext.refl _ | assumption | refine Ext.alloc ?_ _ | refine Ext.drew ?_ | refine Ext.drewN ?_ _ | refine Ext.trans ?_ (by assumption) | refine Ext.setCell ?_ ?_ _)) <;> (first | assumption | omega | (simp; done) | (simp; omega)))⟩
end Go.Proofs.Ytpkddnllfhihpaa
