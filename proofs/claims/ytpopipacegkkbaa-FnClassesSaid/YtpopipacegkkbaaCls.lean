/- Cls: contracts of functions, and lemmas, for this seat. Conditions: as each states. -/
import Derived.Test.YtpopipacegkkbaaBase
import Derived.Test.YtpopipacegkkbaaMathB
set_option linter.unusedVariables false
set_option maxRecDepth 100000
set_option maxHeartbeats 1000000
namespace Go.Proofs.Ytpopipacegkkbaa
open Go Go.RowKit
theorem chz_bd (n k : Nat) (hn : n < 37) (hk : k < 37) : 0 ≤ (chz n k : Int) * ((n : Int) - (k : Int)) + 370000000000 ∧ (chz n k : Int) * ((n : Int) - (k : Int)) ≤ 370000000000 := by
  have h := chz_le n hn k hk
  have h1 : (chz n k : Int) ≤ 10000000000 := by omega
  have h0 : (0 : Int) ≤ (chz n k : Int) := Int.natCast_nonneg _
  have e : (chz n k : Int) * ((n : Int) - (k : Int)) = (chz n k : Int) * (n : Int) - (chz n k : Int) * (k : Int) := Int.mul_sub _ _ _
  have a1 : (chz n k : Int) * (n : Int) ≤ 10000000000 * 37 := Int.mul_le_mul h1 (by omega) (by omega) (by omega)
  have a2 : (chz n k : Int) * (k : Int) ≤ 10000000000 * 37 := Int.mul_le_mul h1 (by omega) (by omega) (by omega)
  have a3 : (0 : Int) ≤ (chz n k : Int) * (n : Int) := Int.mul_nonneg h0 (by omega)
  have a4 : (0 : Int) ≤ (chz n k : Int) * (k : Int) := Int.mul_nonneg h0 (by omega)
  omega
theorem okO_m6 (x y k : Nat) : okO x y k = (decide (m6 ((k : Int) * (x : Int)) = 0) && decide (m6 ((k : Int) * (y : Int)) = 0)) := by
  rw [okO_int]
  have e1 : (m6 ((k : Int) * (x : Int)) = 0) ↔ ((k : Int) * (x : Int) % 6 = 0) := by rw [← m6_eq]; omega
  have e2 : (m6 ((k : Int) * (y : Int)) = 0) ↔ ((k : Int) * (y : Int) % 6 = 0) := by rw [← m6_eq]; omega
  simp only [e1, e2]
theorem okC_inR (x y : Int) : okC x y = (inR x 0 5 && inR y 0 5) := by
  unfold okC inR
  rw [Bool.eq_iff_iff]
  simp only [Bool.and_eq_true, decide_eq_true_eq]
  omega
theorem okC_iff (x y : Int) : okC x y = true ↔ (0 ≤ x ∧ x < 6) ∧ 0 ≤ y ∧ y < 6 := by
  unfold okC
  simp only [Bool.and_eq_true, decide_eq_true_eq]
  omega
theorem l2Cell_any (x y : Int) (w : World) : Calls Try.prog 83 #[(.agg #[.int .i64 (x), .int .i64 (y)])] w fun e w' => e = .returned (.bool (okC x y)) ∧ Ext w w' := by
  go_enter Try.func83, Try.ntmps83
  have HC := Lib.hid (okC_inR x y)
  by_cases h : inR x 0 5 = true
  · go_wp2_with (go_at_call 47; refine (l1In_any _ _ _ _).mono ?_; rintro e w' ⟨rfl, rfl⟩)
    go_ret
    exact ⟨ret_bool (by rw [HC.out, h]; rfl), (by (repeat' (first | (with_reducible exact Ext.refl _) | (with_reducible assumption) | (with_reducible refine Ext.alloc ?_ _) | (with_reducible refine Ext.drew ?_) | (with_reducible refine Ext.drewN ?_ _) | (with_reducible refine Ext.setCell ?_ ?_ _) | (with_reducible refine Ext.trans ?_ (by assumption)))) <;> (first | (with_reducible assumption) | omega | (simp; done) | (simp; omega)))⟩
  · go_wp2_with (go_at_call 47; refine (l1In_any _ _ _ _).mono ?_; rintro e w' ⟨rfl, rfl⟩)
    go_ret
    exact ⟨ret_bool (by rw [HC.out]; simp [h]), (by (repeat' (first | (with_reducible exact Ext.refl _) | (with_reducible assumption) | (with_reducible refine Ext.alloc ?_ _) | (with_reducible refine Ext.drew ?_) | (with_reducible refine Ext.drewN ?_ _) | (with_reducible refine Ext.setCell ?_ ?_ _) | (with_reducible refine Ext.trans ?_ (by assumption)))) <;> (first | (with_reducible assumption) | omega | (simp; done) | (simp; omega)))⟩
theorem l7Vector_any (x y : Int) (w : World) : Calls Try.prog 61 #[(.agg #[.int .i64 (x), .int .i64 (y)])] w fun e w' => e = .returned (.bool (okC x y)) ∧ Ext w w' := by
  go_enter Try.func61, Try.ntmps61
  go_wp2_with (go_at_call 83; refine (l2Cell_any _ _ _).mono ?_; rintro e w1 ⟨rfl, hE⟩)
  go_ret
  exact ⟨rfl, (by (repeat' (first | (with_reducible exact Ext.refl _) | (with_reducible assumption) | (with_reducible refine Ext.alloc ?_ _) | (with_reducible refine Ext.drew ?_) | (with_reducible refine Ext.drewN ?_ _) | (with_reducible refine Ext.setCell ?_ ?_ _) | (with_reducible refine Ext.trans ?_ (by assumption)))) <;> (first | (with_reducible assumption) | omega | (simp; done) | (simp; omega)))⟩
theorem l7Vector_is (x y : Int) (b : Bool) (h : okC x y = b) (w : World) : Calls Try.prog 61 #[(.agg #[.int .i64 (x), .int .i64 (y)])] w fun e w' => e = .returned (.bool b) ∧ Ext w w' := h ▸ l7Vector_any x y w
theorem isSize_any (n : Int) (w : World) : Calls Try.prog 59 #[.int .i64 n] w fun e w' => e = .returned (.bool (inR n 0 36)) ∧ w = w' := by
  go_enter Try.func59, Try.ntmps59
  go_wp2
  all_goals (go_ret; exact ⟨ret_bool (by unfold inR; simp; omega), rfl⟩)
theorem isSize_is (n : Int) (b : Bool) (h : inR n 0 36 = b) (w : World) : Calls Try.prog 59 #[.int .i64 n] w fun e w' => e = .returned (.bool b) ∧ w = w' := h ▸ isSize_any n w
theorem orderOf_any (x y : Nat) (hx : x < 6) (hy : y < 6) (w : World) : Calls Try.prog 63 #[(.agg #[.int .i64 ((x : Int)), .int .i64 ((y : Int))])] w fun e w' => e = .returned (.int .i64 (ordN x y : Int)) ∧ Ext w w' := by
  obtain ⟨f1, f2, f3, _, _, f4⟩ := ord_facts x hx y hy
  have H1 := Lib.hid f1
  have H4 := Lib.hid f4
  clear f1 f4
  go_enter Try.func63, Try.ntmps63
  go_wp2
  go_loop [3] (fun v => ∃ k : Nat, 1 ≤ k ∧ k ≤ ordN x y ∧ v = .int .i64 k) (fun v => 6 - (intOf v).toNat)
  case atStart => exact ⟨1, by omega, f2, rfl⟩
  case round =>
    obtain ⟨k, h1, h2, rfl⟩ := hrel
    have px : (k : Int) * (x : Int) ≤ 6 * 6 := Int.mul_le_mul (by omega) (by omega) (by omega) (by omega)
    have py : (k : Int) * (y : Int) ≤ 6 * 6 := Int.mul_le_mul (by omega) (by omega) (by omega) (by omega)
    have qx : (0 : Int) ≤ (k : Int) * (x : Int) := Int.mul_nonneg (by omega) (by omega)
    have qy : (0 : Int) ≤ (k : Int) * (y : Int) := Int.mul_nonneg (by omega) (by omega)
    have H5 := Lib.hid (okO_int x y k)
    rcases Nat.lt_or_ge k (ordN x y) with hlt | hge
    · have h6 := H4.out k (by omega) h1 hlt
      rw [H5.out, Bool.and_eq_false_iff, decide_eq_false_iff_not, decide_eq_false_iff_not] at h6
      by_cases t1 : (k : Int) * (x : Int) % 6 = 0
      · have t2 : ¬ (k : Int) * (y : Int) % 6 = 0 := h6.resolve_left (fun h => h t1)
        clear h6
        go_wp2
        all_goals exact ⟨⟨k + 1, by omega, by omega, by go_num⟩, by simp [intOf]; omega⟩
      · clear h6
        go_wp2
        all_goals exact ⟨⟨k + 1, by omega, by omega, by go_num⟩, by simp [intOf]; omega⟩
    · obtain rfl : k = ordN x y := by omega
      have h6 := H1.out
      rw [H5.out, Bool.and_eq_true, decide_eq_true_eq, decide_eq_true_eq] at h6
      obtain ⟨t1, t2⟩ := h6
      go_wp2
      go_ret
      exact ⟨rfl, (by (repeat' (first | (with_reducible exact Ext.refl _) | (with_reducible assumption) | (with_reducible refine Ext.alloc ?_ _) | (with_reducible refine Ext.drew ?_) | (with_reducible refine Ext.drewN ?_ _) | (with_reducible refine Ext.setCell ?_ ?_ _) | (with_reducible refine Ext.trans ?_ (by assumption)))) <;> (first | (with_reducible assumption) | omega | (simp; done) | (simp; omega)))⟩
theorem l7Order_any (x y : Nat) (hx : x < 6) (hy : y < 6) (w : World) : Calls Try.prog 64 #[(.agg #[.int .i64 ((x : Int)), .int .i64 ((y : Int))])] w fun e w' => e = .returned (.int .i64 (ordN x y : Int)) ∧ Ext w w' := by
  obtain ⟨f1, f2, f3, _, _, f4⟩ := ord_facts x hx y hy
  have H1 := Lib.hid f1
  have H4 := Lib.hid f4
  clear f1 f4
  go_enter Try.func64, Try.ntmps64
  go_wp2
  go_loop [3] (fun v => ∃ k : Nat, 1 ≤ k ∧ k ≤ ordN x y ∧ v = .int .i64 k) (fun v => 6 - (intOf v).toNat)
  case atStart => exact ⟨1, by omega, f2, rfl⟩
  case round =>
    obtain ⟨k, h1, h2, rfl⟩ := hrel
    have px : (k : Int) * (x : Int) ≤ 6 * 6 := Int.mul_le_mul (by omega) (by omega) (by omega) (by omega)
    have py : (k : Int) * (y : Int) ≤ 6 * 6 := Int.mul_le_mul (by omega) (by omega) (by omega) (by omega)
    have qx : (0 : Int) ≤ (k : Int) * (x : Int) := Int.mul_nonneg (by omega) (by omega)
    have qy : (0 : Int) ≤ (k : Int) * (y : Int) := Int.mul_nonneg (by omega) (by omega)
    have H5 := Lib.hid (okO_m6 x y k)
    rcases Nat.lt_or_ge k (ordN x y) with hlt | hge
    · have h6 := H4.out k (by omega) h1 hlt
      rw [H5.out, Bool.and_eq_false_iff, decide_eq_false_iff_not, decide_eq_false_iff_not] at h6
      by_cases t1 : m6 ((k : Int) * (x : Int)) = 0
      · have t2 : ¬ m6 ((k : Int) * (y : Int)) = 0 := h6.resolve_left (fun h => h t1)
        clear h6
        go_wp2_with (go_at_call 85; refine (l2Mod_any _ _).mono ?_; rintro e w' ⟨rfl, rfl⟩)
        all_goals exact ⟨⟨k + 1, by omega, by omega, by go_num⟩, by simp [intOf]; omega⟩
      · clear h6
        go_wp2_with (go_at_call 85; refine (l2Mod_any _ _).mono ?_; rintro e w' ⟨rfl, rfl⟩)
        all_goals exact ⟨⟨k + 1, by omega, by omega, by go_num⟩, by simp [intOf]; omega⟩
    · obtain rfl : k = ordN x y := by omega
      have h6 := H1.out
      rw [H5.out, Bool.and_eq_true, decide_eq_true_eq, decide_eq_true_eq] at h6
      obtain ⟨t1, t2⟩ := h6
      go_wp2_with (go_at_call 85; refine (l2Mod_any _ _).mono ?_; rintro e w' ⟨rfl, rfl⟩)
      go_ret
      exact ⟨rfl, (by (repeat' (first | (with_reducible exact Ext.refl _) | (with_reducible assumption) | (with_reducible refine Ext.alloc ?_ _) | (with_reducible refine Ext.drew ?_) | (with_reducible refine Ext.drewN ?_ _) | (with_reducible refine Ext.setCell ?_ ?_ _) | (with_reducible refine Ext.trans ?_ (by assumption)))) <;> (first | (with_reducible assumption) | omega | (simp; done) | (simp; omega)))⟩
theorem OrderOf_bad (x y : Int) (h : okC x y = false) (w : World) : Calls Try.prog 19 #[(.agg #[.int .i64 (x), .int .i64 (y)])] w fun e w' => e = .returned (.tuple #[.int .i64 0, .bool false]) ∧ Ext w w' := by
  have H := Lib.hid h
  clear h
  go_enter Try.func19, Try.ntmps19
  go_wp2_with (go_at_call 58; refine (isCell_is _ _ _ H.out _).mono ?_; rintro e w1 ⟨rfl, hE⟩)
  go_ret2
  exact ⟨rfl, (by (repeat' (first | (with_reducible exact Ext.refl _) | (with_reducible assumption) | (with_reducible refine Ext.alloc ?_ _) | (with_reducible refine Ext.drew ?_) | (with_reducible refine Ext.drewN ?_ _) | (with_reducible refine Ext.setCell ?_ ?_ _) | (with_reducible refine Ext.trans ?_ (by assumption)))) <;> (first | (with_reducible assumption) | omega | (simp; done) | (simp; omega)))⟩
theorem OrderOf_ok (x y : Nat) (hx : x < 6) (hy : y < 6) (w : World) : Calls Try.prog 19 #[(.agg #[.int .i64 ((x : Int)), .int .i64 ((y : Int))])] w fun e w' => e = .returned (.tuple #[.int .i64 (ordN x y : Int), .bool true]) ∧ Ext w w' := by
  have H := Lib.hid ((okC_iff x y).2 (by omega))
  go_enter Try.func19, Try.ntmps19
  go_wp2_with (first | (go_at_call 58; refine (isCell_is _ _ _ H.out _).mono ?_; rintro e w1 ⟨rfl, hE⟩; have hEc := hE.cells; have hEf := hE.frees; have hEz := hE.size) | (go_at_call 63; refine (orderOf_any x y hx hy _).mono ?_; rintro e w1 ⟨rfl, hE⟩))
  go_ret2
  exact ⟨rfl, (by (repeat' (first | (with_reducible exact Ext.refl _) | (with_reducible assumption) | (with_reducible refine Ext.alloc ?_ _) | (with_reducible refine Ext.drew ?_) | (with_reducible refine Ext.drewN ?_ _) | (with_reducible refine Ext.setCell ?_ ?_ _) | (with_reducible refine Ext.trans ?_ (by assumption)))) <;> (first | (with_reducible assumption) | omega | (simp; done) | (simp; omega)))⟩
theorem sOrderOf_bad (x y : Int) (h : okC x y = false) (w : World) : Calls Try.prog 20 #[(.agg #[.int .i64 (x), .int .i64 (y)])] w fun e w' => e = .returned (.tuple #[.int .i64 0, .bool false]) ∧ Ext w w' := by
  have H := Lib.hid h
  clear h
  go_enter Try.func20, Try.ntmps20
  go_wp2_with (go_at_call 61; refine (l7Vector_is _ _ _ H.out _).mono ?_; rintro e w1 ⟨rfl, hE⟩)
  go_ret2
  exact ⟨rfl, (by (repeat' (first | (with_reducible exact Ext.refl _) | (with_reducible assumption) | (with_reducible refine Ext.alloc ?_ _) | (with_reducible refine Ext.drew ?_) | (with_reducible refine Ext.drewN ?_ _) | (with_reducible refine Ext.setCell ?_ ?_ _) | (with_reducible refine Ext.trans ?_ (by assumption)))) <;> (first | (with_reducible assumption) | omega | (simp; done) | (simp; omega)))⟩
theorem sOrderOf_ok (x y : Nat) (hx : x < 6) (hy : y < 6) (w : World) : Calls Try.prog 20 #[(.agg #[.int .i64 ((x : Int)), .int .i64 ((y : Int))])] w fun e w' => e = .returned (.tuple #[.int .i64 (ordN x y : Int), .bool true]) ∧ Ext w w' := by
  have H := Lib.hid ((okC_iff x y).2 (by omega))
  go_enter Try.func20, Try.ntmps20
  go_wp2_with (first | (go_at_call 61; refine (l7Vector_is _ _ _ H.out _).mono ?_; rintro e w1 ⟨rfl, hE⟩; have hEc := hE.cells; have hEf := hE.frees; have hEz := hE.size) | (go_at_call 64; refine (l7Order_any x y hx hy _).mono ?_; rintro e w1 ⟨rfl, hE⟩))
  go_ret2
  exact ⟨rfl, (by (repeat' (first | (with_reducible exact Ext.refl _) | (with_reducible assumption) | (with_reducible refine Ext.alloc ?_ _) | (with_reducible refine Ext.drew ?_) | (with_reducible refine Ext.drewN ?_ _) | (with_reducible refine Ext.setCell ?_ ?_ _) | (with_reducible refine Ext.trans ?_ (by assumption)))) <;> (first | (with_reducible assumption) | omega | (simp; done) | (simp; omega)))⟩
theorem chz_step (n k : Nat) (hn : n < 37) (hk : k < n) : (0 ≤ (chz n k : Int) * ((n : Int) - (k : Int)) ∧ (chz n k : Int) * ((n : Int) - (k : Int)) ≤ 370000000000) ∧ (chz n k : Int) * ((n : Int) - (k : Int)) / ((k : Int) + 1) = (chz n (k + 1) : Int) := by
  have e : (chz n k : Int) * ((n : Int) - (k : Int)) = ((chz n k * (n - k) : Nat) : Int) := by rw [Int.natCast_mul, Int.ofNat_sub (by omega)]
  refine ⟨⟨by rw [e]; omega, (chz_bd n k hn (by omega)).2⟩, ?_⟩
  rw [e, chz]
  rfl
theorem choose_any (n m : Nat) (hn : n < 37) (hm : m ≤ n) (w : World) : Calls Try.prog 82 #[.int .i64 (n : Int), .int .i64 (m : Int)] w fun e w' => e = .returned (.int .i64 (chz n m : Int)) ∧ w = w' := by
  go_enter Try.func82, Try.ntmps82
  go_wp2
  go_loop [5, 8] (fun o i => ∃ k : Nat, k ≤ m ∧ i = .int .i64 k ∧ o = .int .i64 (chz n k : Int)) (fun _ i => m - (intOf i).toNat)
  case atStart => exact ⟨0, Nat.zero_le _, rfl, rfl⟩
  case round =>
    obtain ⟨k, hk, rfl, rfl⟩ := hrel
    by_cases hlt : k < m
    · obtain ⟨⟨b0, b1⟩, hs⟩ := chz_step n k hn (by omega)
      have HS := Lib.hid hs
      clear hs
      go_wp2
      exact ⟨⟨k + 1, by omega, by go_num, val_int HS.out⟩, by simp [intOf]; omega⟩
    · obtain rfl : k = m := by omega
      go_wp2
      go_ret
      exact ⟨rfl, rfl⟩
theorem choose_div (s o : Nat) (ho : 36 / o < 37) (hs : s / o ≤ 36 / o) (w : World) : Calls Try.prog 82 #[.int .i64 (36 / (o : Int)), .int .i64 ((s : Int) / (o : Int))] w fun e w' => e = .returned (.int .i64 (chz (36 / o) (s / o) : Int)) ∧ w = w' := by
  rw [show ((36 : Int) / (o : Int)) = ((36 / o : Nat) : Int) from rfl, show ((s : Int) / (o : Int)) = ((s / o : Nat) : Int) from rfl]
  exact choose_any _ _ ho hs w
theorem l7Choose_any (n m : Nat) (hn : n < 37) (hm : m ≤ n) (w : World) : Calls Try.prog 84 #[.int .i64 (n : Int), .int .i64 (m : Int)] w fun e w' => e = .returned (.int .i64 (chz n m : Int)) ∧ w = w' := by
  go_enter Try.func84, Try.ntmps84
  go_wp2
  go_loop [5, 6] (fun o i => ∃ k : Nat, k ≤ m ∧ i = .int .i64 k ∧ o = .int .i64 (chz n k : Int)) (fun _ i => m - (intOf i).toNat)
  case atStart => exact ⟨0, Nat.zero_le _, rfl, rfl⟩
  case round =>
    obtain ⟨k, hk, rfl, rfl⟩ := hrel
    by_cases hlt : k < m
    · obtain ⟨⟨b0, b1⟩, hs⟩ := chz_step n k hn (by omega)
      have HS := Lib.hid hs
      clear hs
      go_wp2
      exact ⟨⟨k + 1, by omega, by go_num, val_int HS.out⟩, by simp [intOf]; omega⟩
    · obtain rfl : k = m := by omega
      go_wp2
      go_ret
      exact ⟨rfl, rfl⟩
theorem l7Choose_div (s o : Nat) (ho : 36 / o < 37) (hs : s / o ≤ 36 / o) (w : World) : Calls Try.prog 84 #[.int .i64 (36 / (o : Int)), .int .i64 ((s : Int) / (o : Int))] w fun e w' => e = .returned (.int .i64 (chz (36 / o) (s / o) : Int)) ∧ w = w' := by
  rw [show ((36 : Int) / (o : Int)) = ((36 / o : Nat) : Int) from rfl, show ((s : Int) / (o : Int)) = ((s / o : Nat) : Int) from rfl]
  exact l7Choose_any _ _ ho hs w
theorem countKept_any (x y s : Nat) (hx : x < 6) (hy : y < 6) (hs : s < 37) (w : World) : Calls Try.prog 60 #[(.agg #[.int .i64 ((x : Int)), .int .i64 ((y : Int))]), .int .i64 (s : Int)] w fun e w' => e = .returned (.int .i64 (keptN x y s : Int)) ∧ Ext w w' := by
  obtain ⟨_, f2, f3, f4, f5, _⟩ := ord_facts x hx y hy
  have g1 : 36 / ordN x y < 37 := Nat.lt_of_le_of_lt (Nat.div_le_self _ _) (by omega)
  have g2 : s / ordN x y ≤ 36 / ordN x y := Nat.div_le_div_right (by omega)
  have HK := Lib.hid (show keptN x y s = if s % ordN x y = 0 then chz (36 / ordN x y) (s / ordN x y) else 0 from rfl)
  have q0 : (0 : Int) ≤ (s : Int) / (ordN x y : Int) := Int.ediv_nonneg (by omega) (by omega)
  have q1 : (s : Int) / (ordN x y : Int) ≤ 36 := Int.le_trans (Int.ediv_le_self _ (by omega)) (by omega)
  clear f4 f5
  by_cases h : s % ordN x y = 0
  · go_enter Try.func60, Try.ntmps60
    go_wp2_with (go_at_call 63; refine (orderOf_any x y (by omega) (by omega) _).mono ?_; rintro e w1 ⟨rfl, hE⟩)
    have G1 := Lib.hid g1
    have G2 := Lib.hid g2
    clear g1 g2
    refine wp_calm 6 0 (fun _ => (#[], 0)) (by kernel_rfl) (by kernel_rfl) ?_; simp only [List.take_succ_cons, List.take_zero, List.drop_succ_cons, List.drop_zero]; intro hgr; (refine walkQ_step (fun K hK => ?_); go_simp; (try (go_ints; try go_simp)); first | (refine hK _ ?_; clear hK K) | (apply Exists.intro; refine ⟨fun _ => ?_, hK _ ?_⟩; ((go_at_call 82; exact calm_same (choose_div s (ordN x y) G1.out G2.out _))); clear hK K) | (simp only [↓IntWalk.iteOmega]; (try go_simp); (try (go_ints; try go_simp)); first | (refine hK _ ?_; clear hK K) | (apply Exists.intro; refine ⟨fun _ => ?_, hK _ ?_⟩; ((go_at_call 82; exact calm_same (choose_div s (ordN x y) G1.out G2.out _))); clear hK K))); (refine walkQ_step (fun K hK => ?_); go_simp; (try (go_ints; try go_simp)); first | (refine hK _ ?_; clear hK K) | (apply Exists.intro; refine ⟨fun _ => ?_, hK _ ?_⟩; ((go_at_call 82; exact calm_same (choose_div s (ordN x y) G1.out G2.out _))); clear hK K) | (simp only [↓IntWalk.iteOmega]; (try go_simp); (try (go_ints; try go_simp)); first | (refine hK _ ?_; clear hK K) | (apply Exists.intro; refine ⟨fun _ => ?_, hK _ ?_⟩; ((go_at_call 82; exact calm_same (choose_div s (ordN x y) G1.out G2.out _))); clear hK K))); (refine walkQ_step (fun K hK => ?_); go_simp; (try (go_ints; try go_simp)); first | (refine hK _ ?_; clear hK K) | (apply Exists.intro; refine ⟨fun _ => ?_, hK _ ?_⟩; ((go_at_call 82; exact calm_same (choose_div s (ordN x y) G1.out G2.out _))); clear hK K) | (simp only [↓IntWalk.iteOmega]; (try go_simp); (try (go_ints; try go_simp)); first | (refine hK _ ?_; clear hK K) | (apply Exists.intro; refine ⟨fun _ => ?_, hK _ ?_⟩; ((go_at_call 82; exact calm_same (choose_div s (ordN x y) G1.out G2.out _))); clear hK K))); (refine walkQ_step (fun K hK => ?_); go_simp; (try (go_ints; try go_simp)); first | (refine hK _ ?_; clear hK K) | (apply Exists.intro; refine ⟨fun _ => ?_, hK _ ?_⟩; ((go_at_call 82; exact calm_same (choose_div s (ordN x y) G1.out G2.out _))); clear hK K) | (simp only [↓IntWalk.iteOmega]; (try go_simp); (try (go_ints; try go_simp)); first | (refine hK _ ?_; clear hK K) | (apply Exists.intro; refine ⟨fun _ => ?_, hK _ ?_⟩; ((go_at_call 82; exact calm_same (choose_div s (ordN x y) G1.out G2.out _))); clear hK K))); (refine walkQ_step (fun K hK => ?_); go_simp; (try (go_ints; try go_simp)); first | (refine hK _ ?_; clear hK K) | (apply Exists.intro; refine ⟨fun _ => ?_, hK _ ?_⟩; ((go_at_call 82; exact calm_same (choose_div s (ordN x y) G1.out G2.out _))); clear hK K) | (simp only [↓IntWalk.iteOmega]; (try go_simp); (try (go_ints; try go_simp)); first | (refine hK _ ?_; clear hK K) | (apply Exists.intro; refine ⟨fun _ => ?_, hK _ ?_⟩; ((go_at_call 82; exact calm_same (choose_div s (ordN x y) G1.out G2.out _))); clear hK K))); (refine walkQ_step (fun K hK => ?_); go_simp; (try (go_ints; try go_simp)); first | (refine hK _ ?_; clear hK K) | (apply Exists.intro; refine ⟨fun _ => ?_, hK _ ?_⟩; ((go_at_call 82; exact calm_same (choose_div s (ordN x y) G1.out G2.out _))); clear hK K) | (simp only [↓IntWalk.iteOmega]; (try go_simp); (try (go_ints; try go_simp)); first | (refine hK _ ?_; clear hK K) | (apply Exists.intro; refine ⟨fun _ => ?_, hK _ ?_⟩; ((go_at_call 82; exact calm_same (choose_div s (ordN x y) G1.out G2.out _))); clear hK K))); refine walkQ_nil ?_; clear hgr; refine walkF_nil ?_; intro w1 hE _; have hc2 := hE.cells; have hf2 := hE.frees; have hz2 := hE.size
    go_wp2
    go_ret
    exact ⟨ret_int (nat_int (by rw [HK.out, if_pos h])), (by (repeat' (first | (with_reducible exact Ext.refl _) | (with_reducible assumption) | (with_reducible refine Ext.alloc ?_ _) | (with_reducible refine Ext.drew ?_) | (with_reducible refine Ext.drewN ?_ _) | (with_reducible refine Ext.setCell ?_ ?_ _) | (with_reducible refine Ext.trans ?_ (by assumption)))) <;> (first | (with_reducible assumption) | omega | (simp; done) | (simp; omega)))⟩
  · go_enter Try.func60, Try.ntmps60
    go_wp2_with (go_at_call 63; refine (orderOf_any x y (by omega) (by omega) _).mono ?_; rintro e w1 ⟨rfl, hE⟩)
    go_ret
    exact ⟨ret_int (by rw [HK.out, if_neg h]; rfl), (by (repeat' (first | (with_reducible exact Ext.refl _) | (with_reducible assumption) | (with_reducible refine Ext.alloc ?_ _) | (with_reducible refine Ext.drew ?_) | (with_reducible refine Ext.drewN ?_ _) | (with_reducible refine Ext.setCell ?_ ?_ _) | (with_reducible refine Ext.trans ?_ (by assumption)))) <;> (first | (with_reducible assumption) | omega | (simp; done) | (simp; omega)))⟩
theorem l7Kept_any (x y s : Nat) (hx : x < 6) (hy : y < 6) (hs : s < 37) (w : World) : Calls Try.prog 62 #[(.agg #[.int .i64 ((x : Int)), .int .i64 ((y : Int))]), .int .i64 (s : Int)] w fun e w' => e = .returned (.int .i64 (keptN x y s : Int)) ∧ Ext w w' := by
  obtain ⟨_, f2, f3, f4, f5, _⟩ := ord_facts x hx y hy
  have g1 : 36 / ordN x y < 37 := Nat.lt_of_le_of_lt (Nat.div_le_self _ _) (by omega)
  have g2 : s / ordN x y ≤ 36 / ordN x y := Nat.div_le_div_right (by omega)
  have HK := Lib.hid (show keptN x y s = if s % ordN x y = 0 then chz (36 / ordN x y) (s / ordN x y) else 0 from rfl)
  have q0 : (0 : Int) ≤ (s : Int) / (ordN x y : Int) := Int.ediv_nonneg (by omega) (by omega)
  have q1 : (s : Int) / (ordN x y : Int) ≤ 36 := Int.le_trans (Int.ediv_le_self _ (by omega)) (by omega)
  clear f4 f5
  by_cases h : s % ordN x y = 0
  · go_enter Try.func62, Try.ntmps62
    go_wp2_with (go_at_call 64; refine (l7Order_any x y (by omega) (by omega) _).mono ?_; rintro e w1 ⟨rfl, hE⟩)
    have G1 := Lib.hid g1
    have G2 := Lib.hid g2
    clear g1 g2
    refine wp_calm 6 0 (fun _ => (#[], 0)) (by kernel_rfl) (by kernel_rfl) ?_; simp only [List.take_succ_cons, List.take_zero, List.drop_succ_cons, List.drop_zero]; intro hgr; (refine walkQ_step (fun K hK => ?_); go_simp; (try (go_ints; try go_simp)); first | (refine hK _ ?_; clear hK K) | (apply Exists.intro; refine ⟨fun _ => ?_, hK _ ?_⟩; ((go_at_call 84; exact calm_same (l7Choose_div s (ordN x y) G1.out G2.out _))); clear hK K) | (simp only [↓IntWalk.iteOmega]; (try go_simp); (try (go_ints; try go_simp)); first | (refine hK _ ?_; clear hK K) | (apply Exists.intro; refine ⟨fun _ => ?_, hK _ ?_⟩; ((go_at_call 84; exact calm_same (l7Choose_div s (ordN x y) G1.out G2.out _))); clear hK K))); (refine walkQ_step (fun K hK => ?_); go_simp; (try (go_ints; try go_simp)); first | (refine hK _ ?_; clear hK K) | (apply Exists.intro; refine ⟨fun _ => ?_, hK _ ?_⟩; ((go_at_call 84; exact calm_same (l7Choose_div s (ordN x y) G1.out G2.out _))); clear hK K) | (simp only [↓IntWalk.iteOmega]; (try go_simp); (try (go_ints; try go_simp)); first | (refine hK _ ?_; clear hK K) | (apply Exists.intro; refine ⟨fun _ => ?_, hK _ ?_⟩; ((go_at_call 84; exact calm_same (l7Choose_div s (ordN x y) G1.out G2.out _))); clear hK K))); (refine walkQ_step (fun K hK => ?_); go_simp; (try (go_ints; try go_simp)); first | (refine hK _ ?_; clear hK K) | (apply Exists.intro; refine ⟨fun _ => ?_, hK _ ?_⟩; ((go_at_call 84; exact calm_same (l7Choose_div s (ordN x y) G1.out G2.out _))); clear hK K) | (simp only [↓IntWalk.iteOmega]; (try go_simp); (try (go_ints; try go_simp)); first | (refine hK _ ?_; clear hK K) | (apply Exists.intro; refine ⟨fun _ => ?_, hK _ ?_⟩; ((go_at_call 84; exact calm_same (l7Choose_div s (ordN x y) G1.out G2.out _))); clear hK K))); (refine walkQ_step (fun K hK => ?_); go_simp; (try (go_ints; try go_simp)); first | (refine hK _ ?_; clear hK K) | (apply Exists.intro; refine ⟨fun _ => ?_, hK _ ?_⟩; ((go_at_call 84; exact calm_same (l7Choose_div s (ordN x y) G1.out G2.out _))); clear hK K) | (simp only [↓IntWalk.iteOmega]; (try go_simp); (try (go_ints; try go_simp)); first | (refine hK _ ?_; clear hK K) | (apply Exists.intro; refine ⟨fun _ => ?_, hK _ ?_⟩; ((go_at_call 84; exact calm_same (l7Choose_div s (ordN x y) G1.out G2.out _))); clear hK K))); (refine walkQ_step (fun K hK => ?_); go_simp; (try (go_ints; try go_simp)); first | (refine hK _ ?_; clear hK K) | (apply Exists.intro; refine ⟨fun _ => ?_, hK _ ?_⟩; ((go_at_call 84; exact calm_same (l7Choose_div s (ordN x y) G1.out G2.out _))); clear hK K) | (simp only [↓IntWalk.iteOmega]; (try go_simp); (try (go_ints; try go_simp)); first | (refine hK _ ?_; clear hK K) | (apply Exists.intro; refine ⟨fun _ => ?_, hK _ ?_⟩; ((go_at_call 84; exact calm_same (l7Choose_div s (ordN x y) G1.out G2.out _))); clear hK K))); (refine walkQ_step (fun K hK => ?_); go_simp; (try (go_ints; try go_simp)); first | (refine hK _ ?_; clear hK K) | (apply Exists.intro; refine ⟨fun _ => ?_, hK _ ?_⟩; ((go_at_call 84; exact calm_same (l7Choose_div s (ordN x y) G1.out G2.out _))); clear hK K) | (simp only [↓IntWalk.iteOmega]; (try go_simp); (try (go_ints; try go_simp)); first | (refine hK _ ?_; clear hK K) | (apply Exists.intro; refine ⟨fun _ => ?_, hK _ ?_⟩; ((go_at_call 84; exact calm_same (l7Choose_div s (ordN x y) G1.out G2.out _))); clear hK K))); refine walkQ_nil ?_; clear hgr; refine walkF_nil ?_; intro w1 hE _; have hc2 := hE.cells; have hf2 := hE.frees; have hz2 := hE.size
    go_wp2
    go_ret
    exact ⟨ret_int (nat_int (by rw [HK.out, if_pos h])), (by (repeat' (first | (with_reducible exact Ext.refl _) | (with_reducible assumption) | (with_reducible refine Ext.alloc ?_ _) | (with_reducible refine Ext.drew ?_) | (with_reducible refine Ext.drewN ?_ _) | (with_reducible refine Ext.setCell ?_ ?_ _) | (with_reducible refine Ext.trans ?_ (by assumption)))) <;> (first | (with_reducible assumption) | omega | (simp; done) | (simp; omega)))⟩
  · go_enter Try.func62, Try.ntmps62
    go_wp2_with (go_at_call 64; refine (l7Order_any x y (by omega) (by omega) _).mono ?_; rintro e w1 ⟨rfl, hE⟩)
    go_ret
    exact ⟨ret_int (by rw [HK.out, if_neg h]; rfl), (by (repeat' (first | (with_reducible exact Ext.refl _) | (with_reducible assumption) | (with_reducible refine Ext.alloc ?_ _) | (with_reducible refine Ext.drew ?_) | (with_reducible refine Ext.drewN ?_ _) | (with_reducible refine Ext.setCell ?_ ?_ _) | (with_reducible refine Ext.trans ?_ (by assumption)))) <;> (first | (with_reducible assumption) | omega | (simp; done) | (simp; omega)))⟩
theorem CountKept_bad (x y s : Int) (h : (okC x y && inR s 0 36) = false) (w : World) : Calls Try.prog 17 #[(.agg #[.int .i64 (x), .int .i64 (y)]), .int .i64 s] w fun e w' => e = .returned (.tuple #[.int .i64 0, .bool false]) ∧ Ext w w' := by
  by_cases h1 : okC x y = true
  · have h2 : inR s 0 36 = false := by simpa [h1] using h
    have H1 := Lib.hid h1
    have H2 := Lib.hid h2
    clear h h1 h2
    go_enter Try.func17, Try.ntmps17
    go_wp2_with (first | (go_at_call 58; refine (isCell_is _ _ _ H1.out _).mono ?_; rintro e w1 ⟨rfl, hE⟩) | (go_at_call 59; refine (isSize_is _ _ H2.out _).mono ?_; rintro e w' ⟨rfl, rfl⟩))
    go_ret2
    exact ⟨rfl, (by (repeat' (first | (with_reducible exact Ext.refl _) | (with_reducible assumption) | (with_reducible refine Ext.alloc ?_ _) | (with_reducible refine Ext.drew ?_) | (with_reducible refine Ext.drewN ?_ _) | (with_reducible refine Ext.setCell ?_ ?_ _) | (with_reducible refine Ext.trans ?_ (by assumption)))) <;> (first | (with_reducible assumption) | omega | (simp; done) | (simp; omega)))⟩
  · have H1 := Lib.hid (show okC x y = false by simpa using h1)
    clear h h1
    go_enter Try.func17, Try.ntmps17
    go_wp2_with (go_at_call 58; refine (isCell_is _ _ _ H1.out _).mono ?_; rintro e w1 ⟨rfl, hE⟩)
    go_ret2
    exact ⟨rfl, (by (repeat' (first | (with_reducible exact Ext.refl _) | (with_reducible assumption) | (with_reducible refine Ext.alloc ?_ _) | (with_reducible refine Ext.drew ?_) | (with_reducible refine Ext.drewN ?_ _) | (with_reducible refine Ext.setCell ?_ ?_ _) | (with_reducible refine Ext.trans ?_ (by assumption)))) <;> (first | (with_reducible assumption) | omega | (simp; done) | (simp; omega)))⟩
theorem CountKept_ok (x y s : Nat) (px : x < 6) (py : y < 6) (ps : s < 37) (w : World) : Calls Try.prog 17 #[(.agg #[.int .i64 ((x : Int)), .int .i64 ((y : Int))]), .int .i64 (s : Int)] w fun e w' => e = .returned (.tuple #[.int .i64 (keptN x y s : Int), .bool true]) ∧ Ext w w' := by
  have H := Lib.hid ((okC_iff x y).2 (by omega))
  have H2 := Lib.hid (show inR (s : Int) 0 36 = true by unfold inR; simp; omega)
  go_enter Try.func17, Try.ntmps17
  go_wp2_with (first | (go_at_call 58; refine (isCell_is _ _ _ H.out _).mono ?_; rintro e w1 ⟨rfl, hE⟩; have hEc := hE.cells; have hEf := hE.frees; have hEz := hE.size) | (go_at_call 59; refine (isSize_is _ _ H2.out _).mono ?_; rintro e w' ⟨rfl, rfl⟩) | (go_at_call 60; refine (countKept_any x y s px py ps _).mono ?_; rintro e w1 ⟨rfl, hE⟩))
  go_ret2
  exact ⟨rfl, (by (repeat' (first | (with_reducible exact Ext.refl _) | (with_reducible assumption) | (with_reducible refine Ext.alloc ?_ _) | (with_reducible refine Ext.drew ?_) | (with_reducible refine Ext.drewN ?_ _) | (with_reducible refine Ext.setCell ?_ ?_ _) | (with_reducible refine Ext.trans ?_ (by assumption)))) <;> (first | (with_reducible assumption) | omega | (simp; done) | (simp; omega)))⟩
theorem sCountKept_bad (x y s : Int) (h : (okC x y && inR s 0 36) = false) (w : World) : Calls Try.prog 18 #[(.agg #[.int .i64 (x), .int .i64 (y)]), .int .i64 s] w fun e w' => e = .returned (.tuple #[.int .i64 0, .bool false]) ∧ Ext w w' := by
  by_cases h1 : okC x y = true
  · have h2 : inR s 0 36 = false := by simpa [h1] using h
    have H1 := Lib.hid h1
    have H2 := Lib.hid h2
    clear h h1 h2
    go_enter Try.func18, Try.ntmps18
    go_wp2_with (first | (go_at_call 61; refine (l7Vector_is _ _ _ H1.out _).mono ?_; rintro e w1 ⟨rfl, hE⟩) | (go_at_call 47; refine (l1In_is _ _ _ _ H2.out _).mono ?_; rintro e w' ⟨rfl, rfl⟩))
    go_ret2
    exact ⟨rfl, (by (repeat' (first | (with_reducible exact Ext.refl _) | (with_reducible assumption) | (with_reducible refine Ext.alloc ?_ _) | (with_reducible refine Ext.drew ?_) | (with_reducible refine Ext.drewN ?_ _) | (with_reducible refine Ext.setCell ?_ ?_ _) | (with_reducible refine Ext.trans ?_ (by assumption)))) <;> (first | (with_reducible assumption) | omega | (simp; done) | (simp; omega)))⟩
  · have H1 := Lib.hid (show okC x y = false by simpa using h1)
    clear h h1
    go_enter Try.func18, Try.ntmps18
    go_wp2_with (go_at_call 61; refine (l7Vector_is _ _ _ H1.out _).mono ?_; rintro e w1 ⟨rfl, hE⟩)
    go_ret2
    exact ⟨rfl, (by (repeat' (first | (with_reducible exact Ext.refl _) | (with_reducible assumption) | (with_reducible refine Ext.alloc ?_ _) | (with_reducible refine Ext.drew ?_) | (with_reducible refine Ext.drewN ?_ _) | (with_reducible refine Ext.setCell ?_ ?_ _) | (with_reducible refine Ext.trans ?_ (by assumption)))) <;> (first | (with_reducible assumption) | omega | (simp; done) | (simp; omega)))⟩
theorem sCountKept_ok (x y s : Nat) (px : x < 6) (py : y < 6) (ps : s < 37) (w : World) : Calls Try.prog 18 #[(.agg #[.int .i64 ((x : Int)), .int .i64 ((y : Int))]), .int .i64 (s : Int)] w fun e w' => e = .returned (.tuple #[.int .i64 (keptN x y s : Int), .bool true]) ∧ Ext w w' := by
  have H := Lib.hid ((okC_iff x y).2 (by omega))
  have H2 := Lib.hid (show inR (s : Int) 0 36 = true by unfold inR; simp; omega)
  go_enter Try.func18, Try.ntmps18
  go_wp2_with (first | (go_at_call 61; refine (l7Vector_is _ _ _ H.out _).mono ?_; rintro e w1 ⟨rfl, hE⟩; have hEc := hE.cells; have hEf := hE.frees; have hEz := hE.size) | (go_at_call 47; refine (l1In_is _ _ _ _ H2.out _).mono ?_; rintro e w' ⟨rfl, rfl⟩) | (go_at_call 62; refine (l7Kept_any x y s px py ps _).mono ?_; rintro e w1 ⟨rfl, hE⟩))
  go_ret2
  exact ⟨rfl, (by (repeat' (first | (with_reducible exact Ext.refl _) | (with_reducible assumption) | (with_reducible refine Ext.alloc ?_ _) | (with_reducible refine Ext.drew ?_) | (with_reducible refine Ext.drewN ?_ _) | (with_reducible refine Ext.setCell ?_ ?_ _) | (with_reducible refine Ext.trans ?_ (by assumption)))) <;> (first | (with_reducible assumption) | omega | (simp; done) | (simp; omega)))⟩
theorem CountClasses_bad (s : Int) (h : inR s 0 36 = false) (w : World) : Calls Try.prog 23 #[.int .i64 s] w fun e w' => e = .returned (.tuple #[.int .i64 0, .bool false]) ∧ Ext w w' := by
  have H := Lib.hid h
  clear h
  go_enter Try.func23, Try.ntmps23
  go_wp2_with (go_at_call 59; refine (isSize_is _ _ H.out _).mono ?_; rintro e w' ⟨rfl, rfl⟩)
  go_ret2
  exact ⟨rfl, (by (repeat' (first | (with_reducible exact Ext.refl _) | (with_reducible assumption) | (with_reducible refine Ext.alloc ?_ _) | (with_reducible refine Ext.drew ?_) | (with_reducible refine Ext.drewN ?_ _) | (with_reducible refine Ext.setCell ?_ ?_ _) | (with_reducible refine Ext.trans ?_ (by assumption)))) <;> (first | (with_reducible assumption) | omega | (simp; done) | (simp; omega)))⟩
theorem CountClasses_ok (s : Nat) (ps : s < 37) (w : World) : Calls Try.prog 23 #[.int .i64 (s : Int)] w fun e w' => e = .returned (.tuple #[.int .i64 (sumK s 36 / 36 : Nat), .bool true]) ∧ Ext w w' := by
  have H2 := Lib.hid (show inR (s : Int) 0 36 = true by unfold inR; simp; omega)
  go_enter Try.func23, Try.ntmps23
  go_wp2_with (go_at_call 59; refine (isSize_is _ _ H2.out _).mono ?_; rintro e w' ⟨rfl, rfl⟩)
  go_loopw [4, 9] (fun o i wr => ∃ k : Nat, k ≤ 36 ∧ i = .int .i64 k ∧ o = .int .i64 (sumK s k : Int) ∧ Ext w wr) (fun _ i _ => 36 - (intOf i).toNat)
  case atStart => exact ⟨0, Nat.zero_le _, rfl, rfl, Ext.refl _⟩
  case round =>
    obtain ⟨k, hk, rfl, rfl, hx⟩ := hrel
    have b1 := sumK_le s k ps hk
    by_cases hlt : k < 36
    · have b2 := kept_le (k / 6) (k % 6) s (by omega) (by omega) ps
      have HS := Lib.hid (show sumK s (k + 1) = sumK s k + keptN (k / 6) (k % 6) s from rfl)
      go_wp2_with (go_at_call 60; refine (countKept_any (k / 6) (k % 6) s (by omega) (by omega) ps _).mono ?_; rintro e w1 ⟨rfl, hE⟩)
      exact ⟨⟨k + 1, by omega, by go_num, val_int (by rw [HS.out]; omega), hx.trans hE⟩, by simp [intOf]; omega⟩
    · obtain rfl : k = 36 := by omega
      go_wp2
      go_ret2
      exact ⟨ret2_int (by omega), (by (repeat' (first | (with_reducible exact Ext.refl _) | (with_reducible assumption) | (with_reducible refine Ext.alloc ?_ _) | (with_reducible refine Ext.drew ?_) | (with_reducible refine Ext.drewN ?_ _) | (with_reducible refine Ext.setCell ?_ ?_ _) | (with_reducible refine Ext.trans ?_ (by assumption)))) <;> (first | (with_reducible assumption) | omega | (simp; done) | (simp; omega)))⟩
theorem sCountClasses_bad (s : Int) (h : inR s 0 36 = false) (w : World) : Calls Try.prog 24 #[.int .i64 s] w fun e w' => e = .returned (.tuple #[.int .i64 0, .bool false]) ∧ Ext w w' := by
  have H := Lib.hid h
  clear h
  go_enter Try.func24, Try.ntmps24
  go_wp2_with (go_at_call 47; refine (l1In_is _ _ _ _ H.out _).mono ?_; rintro e w' ⟨rfl, rfl⟩)
  go_ret2
  exact ⟨rfl, (by (repeat' (first | (with_reducible exact Ext.refl _) | (with_reducible assumption) | (with_reducible refine Ext.alloc ?_ _) | (with_reducible refine Ext.drew ?_) | (with_reducible refine Ext.drewN ?_ _) | (with_reducible refine Ext.setCell ?_ ?_ _) | (with_reducible refine Ext.trans ?_ (by assumption)))) <;> (first | (with_reducible assumption) | omega | (simp; done) | (simp; omega)))⟩
theorem sCountClasses_ok (s : Nat) (ps : s < 37) (w : World) : Calls Try.prog 24 #[.int .i64 (s : Int)] w fun e w' => e = .returned (.tuple #[.int .i64 (sumK s 36 / 36 : Nat), .bool true]) ∧ Ext w w' := by
  have H2 := Lib.hid (show inR (s : Int) 0 36 = true by unfold inR; simp; omega)
  go_enter Try.func24, Try.ntmps24
  go_wp2_with (go_at_call 47; refine (l1In_is _ _ _ _ H2.out _).mono ?_; rintro e w' ⟨rfl, rfl⟩)
  go_loopw [4, 5] (fun o i wr => ∃ k : Nat, k ≤ 6 ∧ i = .int .i64 k ∧ o = .int .i64 (sumK s (6 * k) : Int) ∧ Ext w wr) (fun _ i _ => 6 - (intOf i).toNat)
  case atStart => exact ⟨0, Nat.zero_le _, rfl, rfl, Ext.refl _⟩
  case round =>
    obtain ⟨k, hk, rfl, rfl, hx⟩ := hrel
    obtain ⟨wo, rfl⟩ : ∃ wo : World, wo = wr := ⟨_, rfl⟩
    by_cases hlt : k < 6
    · have hd : decide ((k : Int) < 6) = true := by simp; omega
      go_wp2
      go_loopw [4, 6] (fun o i wr => ∃ j : Nat, j ≤ 6 ∧ i = .int .i64 j ∧ o = .int .i64 (sumK s (6 * k + j) : Int) ∧ Ext w wr) (fun _ i _ => 6 - (intOf i).toNat)
      case atStart => exact ⟨0, Nat.zero_le _, rfl, rfl, hx⟩
      case round =>
        obtain ⟨j, hj, rfl, rfl, hx2⟩ := hrel
        have b1 := sumK_le s (6 * k + j) ps (by omega)
        by_cases hl2 : j < 6
        · have b2 := kept_le k j s hlt hl2 ps
          have HS := Lib.hid (show sumK s (6 * k + (j + 1)) = sumK s (6 * k + j) + keptN k j s by
            have e1 : (6 * k + j) / 6 = k := by omega
            have e2 : (6 * k + j) % 6 = j := by omega
            show sumK s (6 * k + j + 1) = _
            rw [sumK, e1, e2])
          go_wp2_with (go_at_call 62; refine (l7Kept_any k j s hlt hl2 ps _).mono ?_; rintro e w1 ⟨rfl, hE⟩)
          (first | exact ⟨⟨j + 1, by omega, by go_num, val_int (by rw [HS.out]; omega), hx2.trans hE⟩, by simp [intOf]; omega⟩ | (refine ⟨?_, by simp [intOf]; omega⟩; (repeat apply Exists.intro); exact ⟨⟨j + 1, by omega, by go_num, val_int (by rw [HS.out]; omega), hx2.trans hE⟩, rfl⟩))
        · obtain rfl : j = 6 := by omega
          go_wp2
          (first | exact ⟨⟨k + 1, by omega, by go_num, rfl, hx2⟩, by simp [intOf]; omega⟩ | (refine ⟨?_, by simp [intOf]; omega⟩; (repeat apply Exists.intro); exact ⟨⟨k + 1, by omega, by go_num, rfl, hx2⟩, rfl⟩))
    · obtain rfl : k = 6 := by omega
      have b1 := sumK_le s 36 ps (by omega)
      go_wp2
      go_ret2
      exact ⟨ret2_int (by omega), (by (repeat' (first | (with_reducible exact Ext.refl _) | (with_reducible assumption) | (with_reducible refine Ext.alloc ?_ _) | (with_reducible refine Ext.drew ?_) | (with_reducible refine Ext.drewN ?_ _) | (with_reducible refine Ext.setCell ?_ ?_ _) | (with_reducible refine Ext.trans ?_ (by assumption)))) <;> (first | (with_reducible assumption) | omega | (simp; done) | (simp; omega)))⟩
end Go.Proofs.Ytpopipacegkkbaa
