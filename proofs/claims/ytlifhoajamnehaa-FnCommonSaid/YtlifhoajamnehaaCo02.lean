/- Sets SpecA Sets2 Sets3: contracts of functions, and lemmas, for this seat. Conditions: as each states. -/
import Derived.Test.YtlifhoajamnehaaCo01
set_option linter.unusedVariables false
set_option linter.unusedSimpArgs false
set_option maxRecDepth 100000
set_option maxHeartbeats 1000000
namespace Go.Proofs.Ytlifhoajamnehaa
open Go Go.RowKit
theorem bad_first {r : Nat → Int} (h : ¬ okR r) : ∃ m, m < 6 ∧ (∀ k, k < m → 0 ≤ r k ∧ r k ≤ 63) ∧ ¬ (0 ≤ r m ∧ r m ≤ 63) := by
  have step : ∀ j, (∀ k, k < j → 0 ≤ r k ∧ r k ≤ 63) ∨ ∃ m, m < j ∧ (∀ k, k < m → 0 ≤ r k ∧ r k ≤ 63) ∧ ¬ (0 ≤ r m ∧ r m ≤ 63) := by
    intro j
    induction j with
    | zero => exact .inl fun k hk => absurd hk (Nat.not_lt_zero _)
    | succ j ih =>
      rcases ih with h1 | ⟨m, h1, h2, h3⟩
      · by_cases hj : 0 ≤ r j ∧ r j ≤ 63
        · refine .inl fun k hk => ?_
          by_cases e : k = j
          · subst e; exact hj
          · exact h1 k (by omega)
        · exact .inr ⟨j, by omega, h1, hj⟩
      · exact .inr ⟨m, by omega, h2, h3⟩
  rcases step 6 with h1 | ⟨m, h1, h2, h3⟩
  · exact absurd h1 h
  · exact ⟨m, h1, h2, h3⟩
theorem row_put (n k : Nat) (hk : k < 6) : bits .or .u64 ((pkN (rowN n) k : Nat) : Int) (IntKind.u64.wrap (rw n k * 2 ^ (k * 6))) = ((pkN (rowN n) (k + 1) : Nat) : Int) := by
  have h1 := pkN_lt (rowN n) (rowN_lt n) k
  have h2 := pkN_lt (rowN n) (rowN_lt n) (k + 1)
  have h3 : rowN n k * 2 ^ (6 * k) < 68719476736 := by
    have := rowN_lt n k
    have e : (68719476736 : Nat) = 64 * 2 ^ 30 := rfl
    rw [e]
    refine Nat.mul_lt_mul_of_lt_of_le this (Nat.pow_le_pow_right (by omega) (by omega)) (by omega)
  have h4 : pkN (rowN n) k < 68719476736 := Nat.lt_of_lt_of_le h1 (show 2 ^ (6 * k) ≤ 2 ^ 36 from Nat.pow_le_pow_right (by omega) (by omega))
  have e : rw n k * 2 ^ (k * 6) = ((rowN n k * 2 ^ (6 * k) : Nat) : Int) := by unfold rw; rw [Nat.mul_comm k 6]; simp
  rw [e, IntWalk.u64_in _ ⟨Int.natCast_nonneg _, by omega⟩, or64 h4 h3]
  rfl
theorem mkN_step (p : Nat → Bool) (k : Nat) (hk : k < 36) :
    (p k = true → bits .or .u64 ((mkN p k : Nat) : Int) (IntKind.u64.wrap (2 ^ k)) = ((mkN p (k + 1) : Nat) : Int)) ∧ (¬ p k = true → mkN p k = mkN p (k + 1)) := by
  have h1 : mkN p k < 68719476736 := Nat.lt_of_lt_of_le (mkN_lt p k) (show 2 ^ k ≤ 2 ^ 36 from Nat.pow_le_pow_right (by omega) (by omega))
  refine ⟨fun h => ?_, fun h => ?_⟩
  · rw [bit_put _ hk, or64 h1 (pow36 hk)]
    rw [mkN, if_pos h]
  · rw [mkN, if_neg h]
theorem mvN_step (n : Nat) (t : Nat → Nat) (ht : ∀ k, k < 36 → t k < 36) (k : Nat) (hk : k < 36) :
    (n.testBit k = true → bits .or .u64 ((mvN n t k : Nat) : Int) (IntKind.u64.wrap (2 ^ t k)) = ((mvN n t (k + 1) : Nat) : Int)) ∧ (¬ n.testBit k = true → mvN n t k = mvN n t (k + 1)) := by
  refine ⟨fun h => ?_, fun h => ?_⟩
  · rw [bit_put _ (ht k hk), or64 (mvN_lt n t k fun j hj => ht j (by omega)) (pow36 (ht k hk))]
    rw [mvN, if_pos h]
  · rw [mvN, if_neg h]
theorem idx6 (r : Nat → Int) (k : Nat) (hk : k < 6) : ∀ w, (Instr.index 24 (.agg #[.int .i64 (r 0), .int .i64 (r 1), .int .i64 (r 2), .int .i64 (r 3), .int .i64 (r 4), .int .i64 (r 5)]) (.int .i64 (k : Int))).run Try.prog w = .ok (.int .i64 (r k)) w := by
  intro w
  match k, hk with
  | 0, _ => exact (by kernel_rfl : (Instr.index 24 (.agg #[.int .i64 (r 0), .int .i64 (r 1), .int .i64 (r 2), .int .i64 (r 3), .int .i64 (r 4), .int .i64 (r 5)]) (.int .i64 0)).run Try.prog w = .ok (.int .i64 (r 0)) w)
  | 1, _ => exact (by kernel_rfl : (Instr.index 24 (.agg #[.int .i64 (r 0), .int .i64 (r 1), .int .i64 (r 2), .int .i64 (r 3), .int .i64 (r 4), .int .i64 (r 5)]) (.int .i64 1)).run Try.prog w = .ok (.int .i64 (r 1)) w)
  | 2, _ => exact (by kernel_rfl : (Instr.index 24 (.agg #[.int .i64 (r 0), .int .i64 (r 1), .int .i64 (r 2), .int .i64 (r 3), .int .i64 (r 4), .int .i64 (r 5)]) (.int .i64 2)).run Try.prog w = .ok (.int .i64 (r 2)) w)
  | 3, _ => exact (by kernel_rfl : (Instr.index 24 (.agg #[.int .i64 (r 0), .int .i64 (r 1), .int .i64 (r 2), .int .i64 (r 3), .int .i64 (r 4), .int .i64 (r 5)]) (.int .i64 3)).run Try.prog w = .ok (.int .i64 (r 3)) w)
  | 4, _ => exact (by kernel_rfl : (Instr.index 24 (.agg #[.int .i64 (r 0), .int .i64 (r 1), .int .i64 (r 2), .int .i64 (r 3), .int .i64 (r 4), .int .i64 (r 5)]) (.int .i64 4)).run Try.prog w = .ok (.int .i64 (r 4)) w)
  | 5, _ => exact (by kernel_rfl : (Instr.index 24 (.agg #[.int .i64 (r 0), .int .i64 (r 1), .int .i64 (r 2), .int .i64 (r 3), .int .i64 (r 4), .int .i64 (r 5)]) (.int .i64 5)).run Try.prog w = .ok (.int .i64 (r 5)) w)
theorem setOf_n (n : Nat) (hn : n < 68719476736) (w : World) : Calls Try.prog 77 #[(.agg #[.int .i64 (rw n 0), .int .i64 (rw n 1), .int .i64 (rw n 2), .int .i64 (rw n 3), .int .i64 (rw n 4), .int .i64 (rw n 5)])] w fun e w' => e = .returned (.tuple #[.int .u64 (n : Int), .bool true]) ∧ Ext w w' := by
  have hp := Lib.hid (pkN_rowN hn)
  go_enter Try.func77, Try.ntmps77
  go_wp2
  go_loop [4, 9] (fun o i => ∃ k : Nat, k ≤ 6 ∧ i = .int .i64 k ∧ o = .int .u64 ((pkN (rowN n) k : Nat) : Int)) (fun _ i => 6 - (intOf i).toNat)
  case atStart => exact ⟨0, Nat.zero_le _, rfl, rfl⟩
  case round =>
    obtain ⟨k, hk, rfl, rfl⟩ := hrel
    by_cases hlt : k < 6
    · have hi := idx6 (rw n) k hlt
      have h0 := rw_0 n k
      have h1 := rw_63 n k
      go_wp2
      go_round
      case rel => exact ⟨k + 1, by omega, by go_num, val_int (row_put n k hlt)⟩
      case measure => simp [intOf]; omega
    · obtain rfl : k = 6 := by omega
      go_wp2
      go_ret2
      exact ⟨ret2_int (nat_int hp.out), (by (repeat' (first | (with_reducible exact Ext.refl _) | (with_reducible assumption) | (with_reducible refine Ext.alloc ?_ _) | (with_reducible refine Ext.drew ?_) | (with_reducible refine Ext.drewN ?_ _) | (with_reducible refine Ext.setCell ?_ ?_ _) | (with_reducible refine Ext.trans ?_ (by assumption)))) <;> (first | (with_reducible assumption) | omega | (simp; done) | (simp; omega)))⟩
theorem setOf_bad (r : Nat → Int) (hb : ¬ okR r) (w : World) : Calls Try.prog 77 #[(.agg #[.int .i64 (r 0), .int .i64 (r 1), .int .i64 (r 2), .int .i64 (r 3), .int .i64 (r 4), .int .i64 (r 5)])] w fun e w' => e = .returned (.tuple #[.int .u64 0, .bool false]) ∧ Ext w w' := by
  obtain ⟨m, hm, hg0, hbad⟩ := bad_first hb
  have hg := Lib.hid hg0
  clear hg0 hb
  go_enter Try.func77, Try.ntmps77
  go_wp2
  go_loop [4, 9] (fun o i => ∃ (k : Nat) (x : Int), k ≤ m ∧ i = .int .i64 k ∧ o = .int .u64 x) (fun _ i => 6 - (intOf i).toNat)
  case atStart => exact ⟨0, 0, Nat.zero_le _, rfl, rfl⟩
  case round =>
    obtain ⟨k, x, hk, rfl, rfl⟩ := hrel
    have hi := idx6 r k (by omega)
    by_cases hlt : k < m
    · obtain ⟨h0, h1⟩ := hg.out k hlt
      go_wp2
      go_round
      case rel => exact ⟨k + 1, _, by omega, by go_num, rfl⟩
      case measure => simp [intOf]; omega
    · obtain rfl : k = m := by omega
      by_cases h0 : r k < 0
      · go_wp2
        go_ret2
        exact ⟨rfl, (by (repeat' (first | (with_reducible exact Ext.refl _) | (with_reducible assumption) | (with_reducible refine Ext.alloc ?_ _) | (with_reducible refine Ext.drew ?_) | (with_reducible refine Ext.drewN ?_ _) | (with_reducible refine Ext.setCell ?_ ?_ _) | (with_reducible refine Ext.trans ?_ (by assumption)))) <;> (first | (with_reducible assumption) | omega | (simp; done) | (simp; omega)))⟩
      · have h1 : 63 < r k := by omega
        go_wp2
        go_ret2
        exact ⟨rfl, (by (repeat' (first | (with_reducible exact Ext.refl _) | (with_reducible assumption) | (with_reducible refine Ext.alloc ?_ _) | (with_reducible refine Ext.drew ?_) | (with_reducible refine Ext.drewN ?_ _) | (with_reducible refine Ext.setCell ?_ ?_ _) | (with_reducible refine Ext.trans ?_ (by assumption)))) <;> (first | (with_reducible assumption) | omega | (simp; done) | (simp; omega)))⟩
/-- cells that a function moves -/
theorem moved_any (n : Nat) (hn : n < 68719476736) (f : FuncId) (caps : Array Value) (tx ty : Nat → Nat) (w : World) (hcf : ∀ args w, (callFunc f args).run Try.prog w = .ok (.enter f args) w)
    (hg : ∀ k, k < 36 → tx k < 6 ∧ ty k < 6 ∧ ∀ w', Ext w w' → Calls Try.prog f (#[.int .i64 ((k : Int) % 6), .int .i64 ((k : Int) / 6)] ++ caps) w' fun e w'' => e = .returned (.tuple #[.int .i64 (tx k : Int), .int .i64 (ty k : Int)]) ∧ Ext w' w'') :
    Calls Try.prog 141 #[.int .u64 (n : Int), .func (.func f) #[] caps] w fun e w' => e = .returned (.int .u64 ((mvN n (fun k => ty k * 6 + tx k) 36 : Nat) : Int)) ∧ Ext w w' := by
  have HG := Lib.hid hg
  clear hg
  go_enter Try.func141, Try.ntmps141
  go_wp2
  go_loopw [5, 9] (fun o i wr => ∃ k : Nat, k ≤ 36 ∧ i = .int .i64 k ∧ o = .int .u64 ((mvN n (fun k => ty k * 6 + tx k) k : Nat) : Int) ∧ Ext w wr) (fun _ i _ => 36 - (intOf i).toNat)
  case atStart => exact ⟨0, Nat.zero_le _, rfl, rfl, Ext.refl _⟩
  case round =>
    obtain ⟨k, hk, rfl, rfl, hx⟩ := hrel
    by_cases hlt : k < 36
    · obtain ⟨h1, h2, hc⟩ := HG.out k hlt
      have hc' := Lib.hid (hc wr hx)
      have hS := Lib.hid (mvN_step n (fun k => ty k * 6 + tx k) (fun k hk => by obtain ⟨a, b, _⟩ := HG.out k hk; show _ < 36; omega) k hlt)
      clear hc
      by_cases hb : n.testBit k = true
      · go_wp2_with (first | (go_at_call 157; refine (has_any n k hn hlt _).mono ?_; rintro e w' ⟨rfl, rfl⟩) | (refine (Hid.out hc').mono ?_; rintro e w1 ⟨rfl, hx1⟩))
        exact ⟨⟨k + 1, by omega, by go_num, val_int (hS.out.1 hb), hx.trans hx1⟩, by simp [intOf]; omega⟩
      · go_wp2_with (go_at_call 157; refine (has_any n k hn hlt _).mono ?_; rintro e w' ⟨rfl, rfl⟩)
        exact ⟨⟨k + 1, by omega, by go_num, val_int (nat_int (hS.out.2 hb)), hx⟩, by simp [intOf]; omega⟩
    · obtain rfl : k = 36 := by omega
      go_wp2
      go_ret
      exact ⟨rfl, hx⟩
end Go.Proofs.Ytlifhoajamnehaa
set_option linter.unusedVariables false
set_option linter.unusedSimpArgs false
set_option maxRecDepth 100000
set_option maxHeartbeats 1000000
namespace Go.Proofs.Ytlifhoajamnehaa
open Go Go.RowKit
theorem l2Sheet_n (n : Nat) (w : World) : Calls Try.prog 75 #[(.agg #[.int .i64 (rw n 0), .int .i64 (rw n 1), .int .i64 (rw n 2), .int .i64 (rw n 3), .int .i64 (rw n 4), .int .i64 (rw n 5)])] w fun e w' => e = .returned (.bool true) ∧ Ext w w' := by
  go_enter Try.func75, Try.ntmps75
  go_wp2
  go_loop [3] (fun i => ∃ k : Nat, k ≤ 6 ∧ i = .int .i64 k) (fun i => 6 - (intOf i).toNat)
  case atStart => exact ⟨0, Nat.zero_le _, rfl⟩
  case round =>
    obtain ⟨k, hk, rfl⟩ := hrel
    by_cases hlt : k < 6
    · have c := cell6_at w (rw n) 26 k hlt
      have H := Lib.hid ((inR_iff (rw n k) 0 63).2 ⟨rw_0 n k, rw_63 n k⟩)
      go_wp2_with (go_at_call 95; refine (l1In_is _ _ _ _ H.out _).mono ?_; rintro e w' ⟨rfl, rfl⟩)
      (first | exact ⟨⟨k + 1, by omega, by go_num⟩, by simp [intOf]; omega⟩ | (refine ⟨?_, by simp [intOf]; omega⟩; (repeat apply Exists.intro); exact ⟨⟨k + 1, by omega, by go_num⟩, rfl⟩))
    · obtain rfl : k = 6 := by omega
      go_wp2
      go_ret
      exact ⟨rfl, (by (repeat' (first | (with_reducible exact Ext.refl _) | (with_reducible assumption) | (with_reducible refine Ext.alloc ?_ _) | (with_reducible refine Ext.drew ?_) | (with_reducible refine Ext.drewN ?_ _) | (with_reducible refine Ext.setCell ?_ ?_ _) | (with_reducible refine Ext.trans ?_ (by assumption)))) <;> (first | (with_reducible assumption) | omega | (simp; done) | (simp; omega)))⟩
theorem l2Sheet_bad (r : Nat → Int) (hb : ¬ okR r) (w : World) : Calls Try.prog 75 #[(.agg #[.int .i64 (r 0), .int .i64 (r 1), .int .i64 (r 2), .int .i64 (r 3), .int .i64 (r 4), .int .i64 (r 5)])] w fun e w' => e = .returned (.bool false) ∧ Ext w w' := by
  obtain ⟨m, hm, hg0, hbad⟩ := bad_first hb
  have hg := Lib.hid hg0
  have HB := Lib.hid (show inR (r m) 0 63 = false by rw [← Bool.not_eq_true]; exact fun h => hbad ((inR_iff _ _ _).1 h))
  clear hg0 hb hbad
  go_enter Try.func75, Try.ntmps75
  go_wp2
  go_loop [3] (fun i => ∃ k : Nat, k ≤ m ∧ i = .int .i64 k) (fun i => 6 - (intOf i).toNat)
  case atStart => exact ⟨0, Nat.zero_le _, rfl⟩
  case round =>
    obtain ⟨k, hk, rfl⟩ := hrel
    have c := cell6_at w r 26 k (by omega)
    by_cases hlt : k < m
    · have H := Lib.hid ((inR_iff (r k) 0 63).2 (hg.out k hlt))
      go_wp2_with (go_at_call 95; refine (l1In_is _ _ _ _ H.out _).mono ?_; rintro e w' ⟨rfl, rfl⟩)
      (first | exact ⟨⟨k + 1, by omega, by go_num⟩, by simp [intOf]; omega⟩ | (refine ⟨?_, by simp [intOf]; omega⟩; (repeat apply Exists.intro); exact ⟨⟨k + 1, by omega, by go_num⟩, rfl⟩))
    · obtain rfl : k = m := by omega
      go_wp2_with (go_at_call 95; refine (l1In_is _ _ _ _ HB.out _).mono ?_; rintro e w' ⟨rfl, rfl⟩)
      go_ret
      exact ⟨rfl, (by (repeat' (first | (with_reducible exact Ext.refl _) | (with_reducible assumption) | (with_reducible refine Ext.alloc ?_ _) | (with_reducible refine Ext.drew ?_) | (with_reducible refine Ext.drewN ?_ _) | (with_reducible refine Ext.setCell ?_ ?_ _) | (with_reducible refine Ext.trans ?_ (by assumption)))) <;> (first | (with_reducible assumption) | omega | (simp; done) | (simp; omega)))⟩
theorem l2Get_n (n x y : Nat) (hx : x < 6) (hy : y < 6) (w : World) : Calls Try.prog 166 #[(.agg #[.int .i64 (rw n 0), .int .i64 (rw n 1), .int .i64 (rw n 2), .int .i64 (rw n 3), .int .i64 (rw n 4), .int .i64 (rw n 5)]), .int .i64 (x : Int), .int .i64 (y : Int)] w fun e w' => e = .returned (.bool (n.testBit (6 * y + x))) ∧ Ext w w' := by
  have c := cell6_at w (rw n) 26 y hy
  have b0 := rw_0 n y
  have b1 := rw_63 n y
  go_enter Try.func166, Try.ntmps166
  go_wp2
  go_ret
  exact ⟨ret_bool (get_bit n x y hx), (by (repeat' (first | (with_reducible exact Ext.refl _) | (with_reducible assumption) | (with_reducible refine Ext.alloc ?_ _) | (with_reducible refine Ext.drew ?_) | (with_reducible refine Ext.drewN ?_ _) | (with_reducible refine Ext.setCell ?_ ?_ _) | (with_reducible refine Ext.trans ?_ (by assumption)))) <;> (first | (with_reducible assumption) | omega | (simp; done) | (simp; omega)))⟩
theorem l2Flip_0 (n x : Nat) (hx : x < 6) (w : World) : Calls Try.prog 153 #[(.agg #[.int .i64 (rw n 0), .int .i64 (rw n 1), .int .i64 (rw n 2), .int .i64 (rw n 3), .int .i64 (rw n 4), .int .i64 (rw n 5)]), .int .i64 (x : Int), .int .i64 0] w fun e w' => e = .returned (.agg #[.int .i64 (rw (n ^^^ 2 ^ (6 * 0 + x)) 0), .int .i64 (rw (n ^^^ 2 ^ (6 * 0 + x)) 1), .int .i64 (rw (n ^^^ 2 ^ (6 * 0 + x)) 2), .int .i64 (rw (n ^^^ 2 ^ (6 * 0 + x)) 3), .int .i64 (rw (n ^^^ 2 ^ (6 * 0 + x)) 4), .int .i64 (rw (n ^^^ 2 ^ (6 * 0 + x)) 5)]) ∧ Ext w w' := by
  have F := Lib.hid (flip_row n x 0 hx (by omega))
  have G := Lib.hid (fun j => flip_other n x 0 j hx)
  go_enter Try.func153, Try.ntmps153
  go_wp2
  refine wp_still 10 (by kernel_rfl) (by kernel_rfl) ?_; simp only [List.take_succ_cons, List.take_zero, List.drop_succ_cons, List.drop_zero]; (refine wpStill_step (fun K hK => ?_); go_simp; (try (go_ints; try go_simp)); first | (refine hK _ ?_; clear hK K) | (apply Exists.intro; refine ⟨?_, hK _ ?_⟩; (fail); clear hK K) | (simp only [↓IntWalk.iteOmega]; (try go_simp); (try (go_ints; try go_simp)); first | (refine hK _ ?_; clear hK K) | (apply Exists.intro; refine ⟨?_, hK _ ?_⟩; (fail); clear hK K))); (refine wpStill_step (fun K hK => ?_); go_simp; (try (go_ints; try go_simp)); first | (refine hK _ ?_; clear hK K) | (apply Exists.intro; refine ⟨?_, hK _ ?_⟩; (fail); clear hK K) | (simp only [↓IntWalk.iteOmega]; (try go_simp); (try (go_ints; try go_simp)); first | (refine hK _ ?_; clear hK K) | (apply Exists.intro; refine ⟨?_, hK _ ?_⟩; (fail); clear hK K))); (refine wpStill_step (fun K hK => ?_); go_simp; (try (go_ints; try go_simp)); first | (refine hK _ ?_; clear hK K) | (apply Exists.intro; refine ⟨?_, hK _ ?_⟩; (fail); clear hK K) | (simp only [↓IntWalk.iteOmega]; (try go_simp); (try (go_ints; try go_simp)); first | (refine hK _ ?_; clear hK K) | (apply Exists.intro; refine ⟨?_, hK _ ?_⟩; (fail); clear hK K))); (refine wpStill_step (fun K hK => ?_); go_simp; (try (go_ints; try go_simp)); first | (refine hK _ ?_; clear hK K) | (apply Exists.intro; refine ⟨?_, hK _ ?_⟩; (fail); clear hK K) | (simp only [↓IntWalk.iteOmega]; (try go_simp); (try (go_ints; try go_simp)); first | (refine hK _ ?_; clear hK K) | (apply Exists.intro; refine ⟨?_, hK _ ?_⟩; (fail); clear hK K))); (refine wpStill_step (fun K hK => ?_); go_simp; (try (go_ints; try go_simp)); first | (refine hK _ ?_; clear hK K) | (apply Exists.intro; refine ⟨?_, hK _ ?_⟩; (fail); clear hK K) | (simp only [↓IntWalk.iteOmega]; (try go_simp); (try (go_ints; try go_simp)); first | (refine hK _ ?_; clear hK K) | (apply Exists.intro; refine ⟨?_, hK _ ?_⟩; (fail); clear hK K))); (refine wpStill_step (fun K hK => ?_); go_simp; (try (go_ints; try go_simp)); first | (refine hK _ ?_; clear hK K) | (apply Exists.intro; refine ⟨?_, hK _ ?_⟩; (fail); clear hK K) | (simp only [↓IntWalk.iteOmega]; (try go_simp); (try (go_ints; try go_simp)); first | (refine hK _ ?_; clear hK K) | (apply Exists.intro; refine ⟨?_, hK _ ?_⟩; (fail); clear hK K))); (refine wpStill_step (fun K hK => ?_); go_simp; (try (go_ints; try go_simp)); first | (refine hK _ ?_; clear hK K) | (apply Exists.intro; refine ⟨?_, hK _ ?_⟩; (fail); clear hK K) | (simp only [↓IntWalk.iteOmega]; (try go_simp); (try (go_ints; try go_simp)); first | (refine hK _ ?_; clear hK K) | (apply Exists.intro; refine ⟨?_, hK _ ?_⟩; (fail); clear hK K))); (refine wpStill_step (fun K hK => ?_); go_simp; (try (go_ints; try go_simp)); first | (refine hK _ ?_; clear hK K) | (apply Exists.intro; refine ⟨?_, hK _ ?_⟩; (fail); clear hK K) | (simp only [↓IntWalk.iteOmega]; (try go_simp); (try (go_ints; try go_simp)); first | (refine hK _ ?_; clear hK K) | (apply Exists.intro; refine ⟨?_, hK _ ?_⟩; (fail); clear hK K))); (refine wpStill_step (fun K hK => ?_); go_simp; (try (go_ints; try go_simp)); first | (refine hK _ ?_; clear hK K) | (apply Exists.intro; refine ⟨?_, hK _ ?_⟩; (fail); clear hK K) | (simp only [↓IntWalk.iteOmega]; (try go_simp); (try (go_ints; try go_simp)); first | (refine hK _ ?_; clear hK K) | (apply Exists.intro; refine ⟨?_, hK _ ?_⟩; (fail); clear hK K))); (refine wpStill_step (fun K hK => ?_); go_simp; (try (go_ints; try go_simp)); first | (refine hK _ ?_; clear hK K) | (apply Exists.intro; refine ⟨?_, hK _ ?_⟩; (fail); clear hK K) | (simp only [↓IntWalk.iteOmega]; (try go_simp); (try (go_ints; try go_simp)); first | (refine hK _ ?_; clear hK K) | (apply Exists.intro; refine ⟨?_, hK _ ?_⟩; (fail); clear hK K))); refine wpStill_nil ?_
  go_wp2
  go_returns
  exact ⟨sheet_eq (by first | exact F.out | (rw [← IntWalk.i64_left]; exact F.out) | exact G.out _ (by omega)) (by first | exact F.out | (rw [← IntWalk.i64_left]; exact F.out) | exact G.out _ (by omega)) (by first | exact F.out | (rw [← IntWalk.i64_left]; exact F.out) | exact G.out _ (by omega)) (by first | exact F.out | (rw [← IntWalk.i64_left]; exact F.out) | exact G.out _ (by omega)) (by first | exact F.out | (rw [← IntWalk.i64_left]; exact F.out) | exact G.out _ (by omega)) (by first | exact F.out | (rw [← IntWalk.i64_left]; exact F.out) | exact G.out _ (by omega)), (by (repeat' (first | (with_reducible exact Ext.refl _) | (with_reducible assumption) | (with_reducible refine Ext.alloc ?_ _) | (with_reducible refine Ext.drew ?_) | (with_reducible refine Ext.drewN ?_ _) | (with_reducible refine Ext.setCell ?_ ?_ _) | (with_reducible refine Ext.trans ?_ (by assumption)))) <;> (first | (with_reducible assumption) | omega | (simp; done) | (simp; omega)))⟩
theorem l2Flip_1 (n x : Nat) (hx : x < 6) (w : World) : Calls Try.prog 153 #[(.agg #[.int .i64 (rw n 0), .int .i64 (rw n 1), .int .i64 (rw n 2), .int .i64 (rw n 3), .int .i64 (rw n 4), .int .i64 (rw n 5)]), .int .i64 (x : Int), .int .i64 1] w fun e w' => e = .returned (.agg #[.int .i64 (rw (n ^^^ 2 ^ (6 * 1 + x)) 0), .int .i64 (rw (n ^^^ 2 ^ (6 * 1 + x)) 1), .int .i64 (rw (n ^^^ 2 ^ (6 * 1 + x)) 2), .int .i64 (rw (n ^^^ 2 ^ (6 * 1 + x)) 3), .int .i64 (rw (n ^^^ 2 ^ (6 * 1 + x)) 4), .int .i64 (rw (n ^^^ 2 ^ (6 * 1 + x)) 5)]) ∧ Ext w w' := by
  have F := Lib.hid (flip_row n x 1 hx (by omega))
  have G := Lib.hid (fun j => flip_other n x 1 j hx)
  go_enter Try.func153, Try.ntmps153
  go_wp2
  refine wp_still 10 (by kernel_rfl) (by kernel_rfl) ?_; simp only [List.take_succ_cons, List.take_zero, List.drop_succ_cons, List.drop_zero]; (refine wpStill_step (fun K hK => ?_); go_simp; (try (go_ints; try go_simp)); first | (refine hK _ ?_; clear hK K) | (apply Exists.intro; refine ⟨?_, hK _ ?_⟩; (fail); clear hK K) | (simp only [↓IntWalk.iteOmega]; (try go_simp); (try (go_ints; try go_simp)); first | (refine hK _ ?_; clear hK K) | (apply Exists.intro; refine ⟨?_, hK _ ?_⟩; (fail); clear hK K))); (refine wpStill_step (fun K hK => ?_); go_simp; (try (go_ints; try go_simp)); first | (refine hK _ ?_; clear hK K) | (apply Exists.intro; refine ⟨?_, hK _ ?_⟩; (fail); clear hK K) | (simp only [↓IntWalk.iteOmega]; (try go_simp); (try (go_ints; try go_simp)); first | (refine hK _ ?_; clear hK K) | (apply Exists.intro; refine ⟨?_, hK _ ?_⟩; (fail); clear hK K))); (refine wpStill_step (fun K hK => ?_); go_simp; (try (go_ints; try go_simp)); first | (refine hK _ ?_; clear hK K) | (apply Exists.intro; refine ⟨?_, hK _ ?_⟩; (fail); clear hK K) | (simp only [↓IntWalk.iteOmega]; (try go_simp); (try (go_ints; try go_simp)); first | (refine hK _ ?_; clear hK K) | (apply Exists.intro; refine ⟨?_, hK _ ?_⟩; (fail); clear hK K))); (refine wpStill_step (fun K hK => ?_); go_simp; (try (go_ints; try go_simp)); first | (refine hK _ ?_; clear hK K) | (apply Exists.intro; refine ⟨?_, hK _ ?_⟩; (fail); clear hK K) | (simp only [↓IntWalk.iteOmega]; (try go_simp); (try (go_ints; try go_simp)); first | (refine hK _ ?_; clear hK K) | (apply Exists.intro; refine ⟨?_, hK _ ?_⟩; (fail); clear hK K))); (refine wpStill_step (fun K hK => ?_); go_simp; (try (go_ints; try go_simp)); first | (refine hK _ ?_; clear hK K) | (apply Exists.intro; refine ⟨?_, hK _ ?_⟩; (fail); clear hK K) | (simp only [↓IntWalk.iteOmega]; (try go_simp); (try (go_ints; try go_simp)); first | (refine hK _ ?_; clear hK K) | (apply Exists.intro; refine ⟨?_, hK _ ?_⟩; (fail); clear hK K))); (refine wpStill_step (fun K hK => ?_); go_simp; (try (go_ints; try go_simp)); first | (refine hK _ ?_; clear hK K) | (apply Exists.intro; refine ⟨?_, hK _ ?_⟩; (fail); clear hK K) | (simp only [↓IntWalk.iteOmega]; (try go_simp); (try (go_ints; try go_simp)); first | (refine hK _ ?_; clear hK K) | (apply Exists.intro; refine ⟨?_, hK _ ?_⟩; (fail); clear hK K))); (refine wpStill_step (fun K hK => ?_); go_simp; (try (go_ints; try go_simp)); first | (refine hK _ ?_; clear hK K) | (apply Exists.intro; refine ⟨?_, hK _ ?_⟩; (fail); clear hK K) | (simp only [↓IntWalk.iteOmega]; (try go_simp); (try (go_ints; try go_simp)); first | (refine hK _ ?_; clear hK K) | (apply Exists.intro; refine ⟨?_, hK _ ?_⟩; (fail); clear hK K))); (refine wpStill_step (fun K hK => ?_); go_simp; (try (go_ints; try go_simp)); first | (refine hK _ ?_; clear hK K) | (apply Exists.intro; refine ⟨?_, hK _ ?_⟩; (fail); clear hK K) | (simp only [↓IntWalk.iteOmega]; (try go_simp); (try (go_ints; try go_simp)); first | (refine hK _ ?_; clear hK K) | (apply Exists.intro; refine ⟨?_, hK _ ?_⟩; (fail); clear hK K))); (refine wpStill_step (fun K hK => ?_); go_simp; (try (go_ints; try go_simp)); first | (refine hK _ ?_; clear hK K) | (apply Exists.intro; refine ⟨?_, hK _ ?_⟩; (fail); clear hK K) | (simp only [↓IntWalk.iteOmega]; (try go_simp); (try (go_ints; try go_simp)); first | (refine hK _ ?_; clear hK K) | (apply Exists.intro; refine ⟨?_, hK _ ?_⟩; (fail); clear hK K))); (refine wpStill_step (fun K hK => ?_); go_simp; (try (go_ints; try go_simp)); first | (refine hK _ ?_; clear hK K) | (apply Exists.intro; refine ⟨?_, hK _ ?_⟩; (fail); clear hK K) | (simp only [↓IntWalk.iteOmega]; (try go_simp); (try (go_ints; try go_simp)); first | (refine hK _ ?_; clear hK K) | (apply Exists.intro; refine ⟨?_, hK _ ?_⟩; (fail); clear hK K))); refine wpStill_nil ?_
  go_wp2
  go_returns
  exact ⟨sheet_eq (by first | exact F.out | (rw [← IntWalk.i64_left]; exact F.out) | exact G.out _ (by omega)) (by first | exact F.out | (rw [← IntWalk.i64_left]; exact F.out) | exact G.out _ (by omega)) (by first | exact F.out | (rw [← IntWalk.i64_left]; exact F.out) | exact G.out _ (by omega)) (by first | exact F.out | (rw [← IntWalk.i64_left]; exact F.out) | exact G.out _ (by omega)) (by first | exact F.out | (rw [← IntWalk.i64_left]; exact F.out) | exact G.out _ (by omega)) (by first | exact F.out | (rw [← IntWalk.i64_left]; exact F.out) | exact G.out _ (by omega)), (by (repeat' (first | (with_reducible exact Ext.refl _) | (with_reducible assumption) | (with_reducible refine Ext.alloc ?_ _) | (with_reducible refine Ext.drew ?_) | (with_reducible refine Ext.drewN ?_ _) | (with_reducible refine Ext.setCell ?_ ?_ _) | (with_reducible refine Ext.trans ?_ (by assumption)))) <;> (first | (with_reducible assumption) | omega | (simp; done) | (simp; omega)))⟩
theorem l2Flip_2 (n x : Nat) (hx : x < 6) (w : World) : Calls Try.prog 153 #[(.agg #[.int .i64 (rw n 0), .int .i64 (rw n 1), .int .i64 (rw n 2), .int .i64 (rw n 3), .int .i64 (rw n 4), .int .i64 (rw n 5)]), .int .i64 (x : Int), .int .i64 2] w fun e w' => e = .returned (.agg #[.int .i64 (rw (n ^^^ 2 ^ (6 * 2 + x)) 0), .int .i64 (rw (n ^^^ 2 ^ (6 * 2 + x)) 1), .int .i64 (rw (n ^^^ 2 ^ (6 * 2 + x)) 2), .int .i64 (rw (n ^^^ 2 ^ (6 * 2 + x)) 3), .int .i64 (rw (n ^^^ 2 ^ (6 * 2 + x)) 4), .int .i64 (rw (n ^^^ 2 ^ (6 * 2 + x)) 5)]) ∧ Ext w w' := by
  have F := Lib.hid (flip_row n x 2 hx (by omega))
  have G := Lib.hid (fun j => flip_other n x 2 j hx)
  go_enter Try.func153, Try.ntmps153
  go_wp2
  refine wp_still 10 (by kernel_rfl) (by kernel_rfl) ?_; simp only [List.take_succ_cons, List.take_zero, List.drop_succ_cons, List.drop_zero]; (refine wpStill_step (fun K hK => ?_); go_simp; (try (go_ints; try go_simp)); first | (refine hK _ ?_; clear hK K) | (apply Exists.intro; refine ⟨?_, hK _ ?_⟩; (fail); clear hK K) | (simp only [↓IntWalk.iteOmega]; (try go_simp); (try (go_ints; try go_simp)); first | (refine hK _ ?_; clear hK K) | (apply Exists.intro; refine ⟨?_, hK _ ?_⟩; (fail); clear hK K))); (refine wpStill_step (fun K hK => ?_); go_simp; (try (go_ints; try go_simp)); first | (refine hK _ ?_; clear hK K) | (apply Exists.intro; refine ⟨?_, hK _ ?_⟩; (fail); clear hK K) | (simp only [↓IntWalk.iteOmega]; (try go_simp); (try (go_ints; try go_simp)); first | (refine hK _ ?_; clear hK K) | (apply Exists.intro; refine ⟨?_, hK _ ?_⟩; (fail); clear hK K))); (refine wpStill_step (fun K hK => ?_); go_simp; (try (go_ints; try go_simp)); first | (refine hK _ ?_; clear hK K) | (apply Exists.intro; refine ⟨?_, hK _ ?_⟩; (fail); clear hK K) | (simp only [↓IntWalk.iteOmega]; (try go_simp); (try (go_ints; try go_simp)); first | (refine hK _ ?_; clear hK K) | (apply Exists.intro; refine ⟨?_, hK _ ?_⟩; (fail); clear hK K))); (refine wpStill_step (fun K hK => ?_); go_simp; (try (go_ints; try go_simp)); first | (refine hK _ ?_; clear hK K) | (apply Exists.intro; refine ⟨?_, hK _ ?_⟩; (fail); clear hK K) | (simp only [↓IntWalk.iteOmega]; (try go_simp); (try (go_ints; try go_simp)); first | (refine hK _ ?_; clear hK K) | (apply Exists.intro; refine ⟨?_, hK _ ?_⟩; (fail); clear hK K))); (refine wpStill_step (fun K hK => ?_); go_simp; (try (go_ints; try go_simp)); first | (refine hK _ ?_; clear hK K) | (apply Exists.intro; refine ⟨?_, hK _ ?_⟩; (fail); clear hK K) | (simp only [↓IntWalk.iteOmega]; (try go_simp); (try (go_ints; try go_simp)); first | (refine hK _ ?_; clear hK K) | (apply Exists.intro; refine ⟨?_, hK _ ?_⟩; (fail); clear hK K))); (refine wpStill_step (fun K hK => ?_); go_simp; (try (go_ints; try go_simp)); first | (refine hK _ ?_; clear hK K) | (apply Exists.intro; refine ⟨?_, hK _ ?_⟩; (fail); clear hK K) | (simp only [↓IntWalk.iteOmega]; (try go_simp); (try (go_ints; try go_simp)); first | (refine hK _ ?_; clear hK K) | (apply Exists.intro; refine ⟨?_, hK _ ?_⟩; (fail); clear hK K))); (refine wpStill_step (fun K hK => ?_); go_simp; (try (go_ints; try go_simp)); first | (refine hK _ ?_; clear hK K) | (apply Exists.intro; refine ⟨?_, hK _ ?_⟩; (fail); clear hK K) | (simp only [↓IntWalk.iteOmega]; (try go_simp); (try (go_ints; try go_simp)); first | (refine hK _ ?_; clear hK K) | (apply Exists.intro; refine ⟨?_, hK _ ?_⟩; (fail); clear hK K))); (refine wpStill_step (fun K hK => ?_); go_simp; (try (go_ints; try go_simp)); first | (refine hK _ ?_; clear hK K) | (apply Exists.intro; refine ⟨?_, hK _ ?_⟩; (fail); clear hK K) | (simp only [↓IntWalk.iteOmega]; (try go_simp); (try (go_ints; try go_simp)); first | (refine hK _ ?_; clear hK K) | (apply Exists.intro; refine ⟨?_, hK _ ?_⟩; (fail); clear hK K))); (refine wpStill_step (fun K hK => ?_); go_simp; (try (go_ints; try go_simp)); first | (refine hK _ ?_; clear hK K) | (apply Exists.intro; refine ⟨?_, hK _ ?_⟩; (fail); clear hK K) | (simp only [↓IntWalk.iteOmega]; (try go_simp); (try (go_ints; try go_simp)); first | (refine hK _ ?_; clear hK K) | (apply Exists.intro; refine ⟨?_, hK _ ?_⟩; (fail); clear hK K))); (refine wpStill_step (fun K hK => ?_); go_simp; (try (go_ints; try go_simp)); first | (refine hK _ ?_; clear hK K) | (apply Exists.intro; refine ⟨?_, hK _ ?_⟩; (fail); clear hK K) | (simp only [↓IntWalk.iteOmega]; (try go_simp); (try (go_ints; try go_simp)); first | (refine hK _ ?_; clear hK K) | (apply Exists.intro; refine ⟨?_, hK _ ?_⟩; (fail); clear hK K))); refine wpStill_nil ?_
  go_wp2
  go_returns
  exact ⟨sheet_eq (by first | exact F.out | (rw [← IntWalk.i64_left]; exact F.out) | exact G.out _ (by omega)) (by first | exact F.out | (rw [← IntWalk.i64_left]; exact F.out) | exact G.out _ (by omega)) (by first | exact F.out | (rw [← IntWalk.i64_left]; exact F.out) | exact G.out _ (by omega)) (by first | exact F.out | (rw [← IntWalk.i64_left]; exact F.out) | exact G.out _ (by omega)) (by first | exact F.out | (rw [← IntWalk.i64_left]; exact F.out) | exact G.out _ (by omega)) (by first | exact F.out | (rw [← IntWalk.i64_left]; exact F.out) | exact G.out _ (by omega)), (by (repeat' (first | (with_reducible exact Ext.refl _) | (with_reducible assumption) | (with_reducible refine Ext.alloc ?_ _) | (with_reducible refine Ext.drew ?_) | (with_reducible refine Ext.drewN ?_ _) | (with_reducible refine Ext.setCell ?_ ?_ _) | (with_reducible refine Ext.trans ?_ (by assumption)))) <;> (first | (with_reducible assumption) | omega | (simp; done) | (simp; omega)))⟩
theorem l2Flip_3 (n x : Nat) (hx : x < 6) (w : World) : Calls Try.prog 153 #[(.agg #[.int .i64 (rw n 0), .int .i64 (rw n 1), .int .i64 (rw n 2), .int .i64 (rw n 3), .int .i64 (rw n 4), .int .i64 (rw n 5)]), .int .i64 (x : Int), .int .i64 3] w fun e w' => e = .returned (.agg #[.int .i64 (rw (n ^^^ 2 ^ (6 * 3 + x)) 0), .int .i64 (rw (n ^^^ 2 ^ (6 * 3 + x)) 1), .int .i64 (rw (n ^^^ 2 ^ (6 * 3 + x)) 2), .int .i64 (rw (n ^^^ 2 ^ (6 * 3 + x)) 3), .int .i64 (rw (n ^^^ 2 ^ (6 * 3 + x)) 4), .int .i64 (rw (n ^^^ 2 ^ (6 * 3 + x)) 5)]) ∧ Ext w w' := by
  have F := Lib.hid (flip_row n x 3 hx (by omega))
  have G := Lib.hid (fun j => flip_other n x 3 j hx)
  go_enter Try.func153, Try.ntmps153
  go_wp2
  refine wp_still 10 (by kernel_rfl) (by kernel_rfl) ?_; simp only [List.take_succ_cons, List.take_zero, List.drop_succ_cons, List.drop_zero]; (refine wpStill_step (fun K hK => ?_); go_simp; (try (go_ints; try go_simp)); first | (refine hK _ ?_; clear hK K) | (apply Exists.intro; refine ⟨?_, hK _ ?_⟩; (fail); clear hK K) | (simp only [↓IntWalk.iteOmega]; (try go_simp); (try (go_ints; try go_simp)); first | (refine hK _ ?_; clear hK K) | (apply Exists.intro; refine ⟨?_, hK _ ?_⟩; (fail); clear hK K))); (refine wpStill_step (fun K hK => ?_); go_simp; (try (go_ints; try go_simp)); first | (refine hK _ ?_; clear hK K) | (apply Exists.intro; refine ⟨?_, hK _ ?_⟩; (fail); clear hK K) | (simp only [↓IntWalk.iteOmega]; (try go_simp); (try (go_ints; try go_simp)); first | (refine hK _ ?_; clear hK K) | (apply Exists.intro; refine ⟨?_, hK _ ?_⟩; (fail); clear hK K))); (refine wpStill_step (fun K hK => ?_); go_simp; (try (go_ints; try go_simp)); first | (refine hK _ ?_; clear hK K) | (apply Exists.intro; refine ⟨?_, hK _ ?_⟩; (fail); clear hK K) | (simp only [↓IntWalk.iteOmega]; (try go_simp); (try (go_ints; try go_simp)); first | (refine hK _ ?_; clear hK K) | (apply Exists.intro; refine ⟨?_, hK _ ?_⟩; (fail); clear hK K))); (refine wpStill_step (fun K hK => ?_); go_simp; (try (go_ints; try go_simp)); first | (refine hK _ ?_; clear hK K) | (apply Exists.intro; refine ⟨?_, hK _ ?_⟩; (fail); clear hK K) | (simp only [↓IntWalk.iteOmega]; (try go_simp); (try (go_ints; try go_simp)); first | (refine hK _ ?_; clear hK K) | (apply Exists.intro; refine ⟨?_, hK _ ?_⟩; (fail); clear hK K))); (refine wpStill_step (fun K hK => ?_); go_simp; (try (go_ints; try go_simp)); first | (refine hK _ ?_; clear hK K) | (apply Exists.intro; refine ⟨?_, hK _ ?_⟩; (fail); clear hK K) | (simp only [↓IntWalk.iteOmega]; (try go_simp); (try (go_ints; try go_simp)); first | (refine hK _ ?_; clear hK K) | (apply Exists.intro; refine ⟨?_, hK _ ?_⟩; (fail); clear hK K))); (refine wpStill_step (fun K hK => ?_); go_simp; (try (go_ints; try go_simp)); first | (refine hK _ ?_; clear hK K) | (apply Exists.intro; refine ⟨?_, hK _ ?_⟩; (fail); clear hK K) | (simp only [↓IntWalk.iteOmega]; (try go_simp); (try (go_ints; try go_simp)); first | (refine hK _ ?_; clear hK K) | (apply Exists.intro; refine ⟨?_, hK _ ?_⟩; (fail); clear hK K))); (refine wpStill_step (fun K hK => ?_); go_simp; (try (go_ints; try go_simp)); first | (refine hK _ ?_; clear hK K) | (apply Exists.intro; refine ⟨?_, hK _ ?_⟩; (fail); clear hK K) | (simp only [↓IntWalk.iteOmega]; (try go_simp); (try (go_ints; try go_simp)); first | (refine hK _ ?_; clear hK K) | (apply Exists.intro; refine ⟨?_, hK _ ?_⟩; (fail); clear hK K))); (refine wpStill_step (fun K hK => ?_); go_simp; (try (go_ints; try go_simp)); first | (refine hK _ ?_; clear hK K) | (apply Exists.intro; refine ⟨?_, hK _ ?_⟩; (fail); clear hK K) | (simp only [↓IntWalk.iteOmega]; (try go_simp); (try (go_ints; try go_simp)); first | (refine hK _ ?_; clear hK K) | (apply Exists.intro; refine ⟨?_, hK _ ?_⟩; (fail); clear hK K))); (refine wpStill_step (fun K hK => ?_); go_simp; (try (go_ints; try go_simp)); first | (refine hK _ ?_; clear hK K) | (apply Exists.intro; refine ⟨?_, hK _ ?_⟩; (fail); clear hK K) | (simp only [↓IntWalk.iteOmega]; (try go_simp); (try (go_ints; try go_simp)); first | (refine hK _ ?_; clear hK K) | (apply Exists.intro; refine ⟨?_, hK _ ?_⟩; (fail); clear hK K))); (refine wpStill_step (fun K hK => ?_); go_simp; (try (go_ints; try go_simp)); first | (refine hK _ ?_; clear hK K) | (apply Exists.intro; refine ⟨?_, hK _ ?_⟩; (fail); clear hK K) | (simp only [↓IntWalk.iteOmega]; (try go_simp); (try (go_ints; try go_simp)); first | (refine hK _ ?_; clear hK K) | (apply Exists.intro; refine ⟨?_, hK _ ?_⟩; (fail); clear hK K))); refine wpStill_nil ?_
  go_wp2
  go_returns
  exact ⟨sheet_eq (by first | exact F.out | (rw [← IntWalk.i64_left]; exact F.out) | exact G.out _ (by omega)) (by first | exact F.out | (rw [← IntWalk.i64_left]; exact F.out) | exact G.out _ (by omega)) (by first | exact F.out | (rw [← IntWalk.i64_left]; exact F.out) | exact G.out _ (by omega)) (by first | exact F.out | (rw [← IntWalk.i64_left]; exact F.out) | exact G.out _ (by omega)) (by first | exact F.out | (rw [← IntWalk.i64_left]; exact F.out) | exact G.out _ (by omega)) (by first | exact F.out | (rw [← IntWalk.i64_left]; exact F.out) | exact G.out _ (by omega)), (by (repeat' (first | (with_reducible exact Ext.refl _) | (with_reducible assumption) | (with_reducible refine Ext.alloc ?_ _) | (with_reducible refine Ext.drew ?_) | (with_reducible refine Ext.drewN ?_ _) | (with_reducible refine Ext.setCell ?_ ?_ _) | (with_reducible refine Ext.trans ?_ (by assumption)))) <;> (first | (with_reducible assumption) | omega | (simp; done) | (simp; omega)))⟩
theorem l2Flip_4 (n x : Nat) (hx : x < 6) (w : World) : Calls Try.prog 153 #[(.agg #[.int .i64 (rw n 0), .int .i64 (rw n 1), .int .i64 (rw n 2), .int .i64 (rw n 3), .int .i64 (rw n 4), .int .i64 (rw n 5)]), .int .i64 (x : Int), .int .i64 4] w fun e w' => e = .returned (.agg #[.int .i64 (rw (n ^^^ 2 ^ (6 * 4 + x)) 0), .int .i64 (rw (n ^^^ 2 ^ (6 * 4 + x)) 1), .int .i64 (rw (n ^^^ 2 ^ (6 * 4 + x)) 2), .int .i64 (rw (n ^^^ 2 ^ (6 * 4 + x)) 3), .int .i64 (rw (n ^^^ 2 ^ (6 * 4 + x)) 4), .int .i64 (rw (n ^^^ 2 ^ (6 * 4 + x)) 5)]) ∧ Ext w w' := by
  have F := Lib.hid (flip_row n x 4 hx (by omega))
  have G := Lib.hid (fun j => flip_other n x 4 j hx)
  go_enter Try.func153, Try.ntmps153
  go_wp2
  refine wp_still 10 (by kernel_rfl) (by kernel_rfl) ?_; simp only [List.take_succ_cons, List.take_zero, List.drop_succ_cons, List.drop_zero]; (refine wpStill_step (fun K hK => ?_); go_simp; (try (go_ints; try go_simp)); first | (refine hK _ ?_; clear hK K) | (apply Exists.intro; refine ⟨?_, hK _ ?_⟩; (fail); clear hK K) | (simp only [↓IntWalk.iteOmega]; (try go_simp); (try (go_ints; try go_simp)); first | (refine hK _ ?_; clear hK K) | (apply Exists.intro; refine ⟨?_, hK _ ?_⟩; (fail); clear hK K))); (refine wpStill_step (fun K hK => ?_); go_simp; (try (go_ints; try go_simp)); first | (refine hK _ ?_; clear hK K) | (apply Exists.intro; refine ⟨?_, hK _ ?_⟩; (fail); clear hK K) | (simp only [↓IntWalk.iteOmega]; (try go_simp); (try (go_ints; try go_simp)); first | (refine hK _ ?_; clear hK K) | (apply Exists.intro; refine ⟨?_, hK _ ?_⟩; (fail); clear hK K))); (refine wpStill_step (fun K hK => ?_); go_simp; (try (go_ints; try go_simp)); first | (refine hK _ ?_; clear hK K) | (apply Exists.intro; refine ⟨?_, hK _ ?_⟩; (fail); clear hK K) | (simp only [↓IntWalk.iteOmega]; (try go_simp); (try (go_ints; try go_simp)); first | (refine hK _ ?_; clear hK K) | (apply Exists.intro; refine ⟨?_, hK _ ?_⟩; (fail); clear hK K))); (refine wpStill_step (fun K hK => ?_); go_simp; (try (go_ints; try go_simp)); first | (refine hK _ ?_; clear hK K) | (apply Exists.intro; refine ⟨?_, hK _ ?_⟩; (fail); clear hK K) | (simp only [↓IntWalk.iteOmega]; (try go_simp); (try (go_ints; try go_simp)); first | (refine hK _ ?_; clear hK K) | (apply Exists.intro; refine ⟨?_, hK _ ?_⟩; (fail); clear hK K))); (refine wpStill_step (fun K hK => ?_); go_simp; (try (go_ints; try go_simp)); first | (refine hK _ ?_; clear hK K) | (apply Exists.intro; refine ⟨?_, hK _ ?_⟩; (fail); clear hK K) | (simp only [↓IntWalk.iteOmega]; (try go_simp); (try (go_ints; try go_simp)); first | (refine hK _ ?_; clear hK K) | (apply Exists.intro; refine ⟨?_, hK _ ?_⟩; (fail); clear hK K))); (refine wpStill_step (fun K hK => ?_); go_simp; (try (go_ints; try go_simp)); first | (refine hK _ ?_; clear hK K) | (apply Exists.intro; refine ⟨?_, hK _ ?_⟩; (fail); clear hK K) | (simp only [↓IntWalk.iteOmega]; (try go_simp); (try (go_ints; try go_simp)); first | (refine hK _ ?_; clear hK K) | (apply Exists.intro; refine ⟨?_, hK _ ?_⟩; (fail); clear hK K))); (refine wpStill_step (fun K hK => ?_); go_simp; (try (go_ints; try go_simp)); first | (refine hK _ ?_; clear hK K) | (apply Exists.intro; refine ⟨?_, hK _ ?_⟩; (fail); clear hK K) | (simp only [↓IntWalk.iteOmega]; (try go_simp); (try (go_ints; try go_simp)); first | (refine hK _ ?_; clear hK K) | (apply Exists.intro; refine ⟨?_, hK _ ?_⟩; (fail); clear hK K))); (refine wpStill_step (fun K hK => ?_); go_simp; (try (go_ints; try go_simp)); first | (refine hK _ ?_; clear hK K) | (apply Exists.intro; refine ⟨?_, hK _ ?_⟩; (fail); clear hK K) | (simp only [↓IntWalk.iteOmega]; (try go_simp); (try (go_ints; try go_simp)); first | (refine hK _ ?_; clear hK K) | (apply Exists.intro; refine ⟨?_, hK _ ?_⟩; (fail); clear hK K))); (refine wpStill_step (fun K hK => ?_); go_simp; (try (go_ints; try go_simp)); first | (refine hK _ ?_; clear hK K) | (apply Exists.intro; refine ⟨?_, hK _ ?_⟩; (fail); clear hK K) | (simp only [↓IntWalk.iteOmega]; (try go_simp); (try (go_ints; try go_simp)); first | (refine hK _ ?_; clear hK K) | (apply Exists.intro; refine ⟨?_, hK _ ?_⟩; (fail); clear hK K))); (refine wpStill_step (fun K hK => ?_); go_simp; (try (go_ints; try go_simp)); first | (refine hK _ ?_; clear hK K) | (apply Exists.intro; refine ⟨?_, hK _ ?_⟩; (fail); clear hK K) | (simp only [↓IntWalk.iteOmega]; (try go_simp); (try (go_ints; try go_simp)); first | (refine hK _ ?_; clear hK K) | (apply Exists.intro; refine ⟨?_, hK _ ?_⟩; (fail); clear hK K))); refine wpStill_nil ?_
  go_wp2
  go_returns
  exact ⟨sheet_eq (by first | exact F.out | (rw [← IntWalk.i64_left]; exact F.out) | exact G.out _ (by omega)) (by first | exact F.out | (rw [← IntWalk.i64_left]; exact F.out) | exact G.out _ (by omega)) (by first | exact F.out | (rw [← IntWalk.i64_left]; exact F.out) | exact G.out _ (by omega)) (by first | exact F.out | (rw [← IntWalk.i64_left]; exact F.out) | exact G.out _ (by omega)) (by first | exact F.out | (rw [← IntWalk.i64_left]; exact F.out) | exact G.out _ (by omega)) (by first | exact F.out | (rw [← IntWalk.i64_left]; exact F.out) | exact G.out _ (by omega)), (by (repeat' (first | (with_reducible exact Ext.refl _) | (with_reducible assumption) | (with_reducible refine Ext.alloc ?_ _) | (with_reducible refine Ext.drew ?_) | (with_reducible refine Ext.drewN ?_ _) | (with_reducible refine Ext.setCell ?_ ?_ _) | (with_reducible refine Ext.trans ?_ (by assumption)))) <;> (first | (with_reducible assumption) | omega | (simp; done) | (simp; omega)))⟩
theorem l2Flip_5 (n x : Nat) (hx : x < 6) (w : World) : Calls Try.prog 153 #[(.agg #[.int .i64 (rw n 0), .int .i64 (rw n 1), .int .i64 (rw n 2), .int .i64 (rw n 3), .int .i64 (rw n 4), .int .i64 (rw n 5)]), .int .i64 (x : Int), .int .i64 5] w fun e w' => e = .returned (.agg #[.int .i64 (rw (n ^^^ 2 ^ (6 * 5 + x)) 0), .int .i64 (rw (n ^^^ 2 ^ (6 * 5 + x)) 1), .int .i64 (rw (n ^^^ 2 ^ (6 * 5 + x)) 2), .int .i64 (rw (n ^^^ 2 ^ (6 * 5 + x)) 3), .int .i64 (rw (n ^^^ 2 ^ (6 * 5 + x)) 4), .int .i64 (rw (n ^^^ 2 ^ (6 * 5 + x)) 5)]) ∧ Ext w w' := by
  have F := Lib.hid (flip_row n x 5 hx (by omega))
  have G := Lib.hid (fun j => flip_other n x 5 j hx)
  go_enter Try.func153, Try.ntmps153
  go_wp2
  refine wp_still 10 (by kernel_rfl) (by kernel_rfl) ?_; simp only [List.take_succ_cons, List.take_zero, List.drop_succ_cons, List.drop_zero]; (refine wpStill_step (fun K hK => ?_); go_simp; (try (go_ints; try go_simp)); first | (refine hK _ ?_; clear hK K) | (apply Exists.intro; refine ⟨?_, hK _ ?_⟩; (fail); clear hK K) | (simp only [↓IntWalk.iteOmega]; (try go_simp); (try (go_ints; try go_simp)); first | (refine hK _ ?_; clear hK K) | (apply Exists.intro; refine ⟨?_, hK _ ?_⟩; (fail); clear hK K))); (refine wpStill_step (fun K hK => ?_); go_simp; (try (go_ints; try go_simp)); first | (refine hK _ ?_; clear hK K) | (apply Exists.intro; refine ⟨?_, hK _ ?_⟩; (fail); clear hK K) | (simp only [↓IntWalk.iteOmega]; (try go_simp); (try (go_ints; try go_simp)); first | (refine hK _ ?_; clear hK K) | (apply Exists.intro; refine ⟨?_, hK _ ?_⟩; (fail); clear hK K))); (refine wpStill_step (fun K hK => ?_); go_simp; (try (go_ints; try go_simp)); first | (refine hK _ ?_; clear hK K) | (apply Exists.intro; refine ⟨?_, hK _ ?_⟩; (fail); clear hK K) | (simp only [↓IntWalk.iteOmega]; (try go_simp); (try (go_ints; try go_simp)); first | (refine hK _ ?_; clear hK K) | (apply Exists.intro; refine ⟨?_, hK _ ?_⟩; (fail); clear hK K))); (refine wpStill_step (fun K hK => ?_); go_simp; (try (go_ints; try go_simp)); first | (refine hK _ ?_; clear hK K) | (apply Exists.intro; refine ⟨?_, hK _ ?_⟩; (fail); clear hK K) | (simp only [↓IntWalk.iteOmega]; (try go_simp); (try (go_ints; try go_simp)); first | (refine hK _ ?_; clear hK K) | (apply Exists.intro; refine ⟨?_, hK _ ?_⟩; (fail); clear hK K))); (refine wpStill_step (fun K hK => ?_); go_simp; (try (go_ints; try go_simp)); first | (refine hK _ ?_; clear hK K) | (apply Exists.intro; refine ⟨?_, hK _ ?_⟩; (fail); clear hK K) | (simp only [↓IntWalk.iteOmega]; (try go_simp); (try (go_ints; try go_simp)); first | (refine hK _ ?_; clear hK K) | (apply Exists.intro; refine ⟨?_, hK _ ?_⟩; (fail); clear hK K))); (refine wpStill_step (fun K hK => ?_); go_simp; (try (go_ints; try go_simp)); first | (refine hK _ ?_; clear hK K) | (apply Exists.intro; refine ⟨?_, hK _ ?_⟩; (fail); clear hK K) | (simp only [↓IntWalk.iteOmega]; (try go_simp); (try (go_ints; try go_simp)); first | (refine hK _ ?_; clear hK K) | (apply Exists.intro; refine ⟨?_, hK _ ?_⟩; (fail); clear hK K))); (refine wpStill_step (fun K hK => ?_); go_simp; (try (go_ints; try go_simp)); first | (refine hK _ ?_; clear hK K) | (apply Exists.intro; refine ⟨?_, hK _ ?_⟩; (fail); clear hK K) | (simp only [↓IntWalk.iteOmega]; (try go_simp); (try (go_ints; try go_simp)); first | (refine hK _ ?_; clear hK K) | (apply Exists.intro; refine ⟨?_, hK _ ?_⟩; (fail); clear hK K))); (refine wpStill_step (fun K hK => ?_); go_simp; (try (go_ints; try go_simp)); first | (refine hK _ ?_; clear hK K) | (apply Exists.intro; refine ⟨?_, hK _ ?_⟩; (fail); clear hK K) | (simp only [↓IntWalk.iteOmega]; (try go_simp); (try (go_ints; try go_simp)); first | (refine hK _ ?_; clear hK K) | (apply Exists.intro; refine ⟨?_, hK _ ?_⟩; (fail); clear hK K))); (refine wpStill_step (fun K hK => ?_); go_simp; (try (go_ints; try go_simp)); first | (refine hK _ ?_; clear hK K) | (apply Exists.intro; refine ⟨?_, hK _ ?_⟩; (fail); clear hK K) | (simp only [↓IntWalk.iteOmega]; (try go_simp); (try (go_ints; try go_simp)); first | (refine hK _ ?_; clear hK K) | (apply Exists.intro; refine ⟨?_, hK _ ?_⟩; (fail); clear hK K))); (refine wpStill_step (fun K hK => ?_); go_simp; (try (go_ints; try go_simp)); first | (refine hK _ ?_; clear hK K) | (apply Exists.intro; refine ⟨?_, hK _ ?_⟩; (fail); clear hK K) | (simp only [↓IntWalk.iteOmega]; (try go_simp); (try (go_ints; try go_simp)); first | (refine hK _ ?_; clear hK K) | (apply Exists.intro; refine ⟨?_, hK _ ?_⟩; (fail); clear hK K))); refine wpStill_nil ?_
  go_wp2
  go_returns
  exact ⟨sheet_eq (by first | exact F.out | (rw [← IntWalk.i64_left]; exact F.out) | exact G.out _ (by omega)) (by first | exact F.out | (rw [← IntWalk.i64_left]; exact F.out) | exact G.out _ (by omega)) (by first | exact F.out | (rw [← IntWalk.i64_left]; exact F.out) | exact G.out _ (by omega)) (by first | exact F.out | (rw [← IntWalk.i64_left]; exact F.out) | exact G.out _ (by omega)) (by first | exact F.out | (rw [← IntWalk.i64_left]; exact F.out) | exact G.out _ (by omega)) (by first | exact F.out | (rw [← IntWalk.i64_left]; exact F.out) | exact G.out _ (by omega)), (by (repeat' (first | (with_reducible exact Ext.refl _) | (with_reducible assumption) | (with_reducible refine Ext.alloc ?_ _) | (with_reducible refine Ext.drew ?_) | (with_reducible refine Ext.drewN ?_ _) | (with_reducible refine Ext.setCell ?_ ?_ _) | (with_reducible refine Ext.trans ?_ (by assumption)))) <;> (first | (with_reducible assumption) | omega | (simp; done) | (simp; omega)))⟩
theorem l2Flip_n (n x y : Nat) (hx : x < 6) (hy : y < 6) (w : World) : Calls Try.prog 153 #[(.agg #[.int .i64 (rw n 0), .int .i64 (rw n 1), .int .i64 (rw n 2), .int .i64 (rw n 3), .int .i64 (rw n 4), .int .i64 (rw n 5)]), .int .i64 (x : Int), .int .i64 (y : Int)] w fun e w' => e = .returned (.agg #[.int .i64 (rw (n ^^^ 2 ^ (6 * y + x)) 0), .int .i64 (rw (n ^^^ 2 ^ (6 * y + x)) 1), .int .i64 (rw (n ^^^ 2 ^ (6 * y + x)) 2), .int .i64 (rw (n ^^^ 2 ^ (6 * y + x)) 3), .int .i64 (rw (n ^^^ 2 ^ (6 * y + x)) 4), .int .i64 (rw (n ^^^ 2 ^ (6 * y + x)) 5)]) ∧ Ext w w' := by
  match y, hy with
  | 0, _ => exact l2Flip_0 n x hx w
  | 1, _ => exact l2Flip_1 n x hx w
  | 2, _ => exact l2Flip_2 n x hx w
  | 3, _ => exact l2Flip_3 n x hx w
  | 4, _ => exact l2Flip_4 n x hx w
  | 5, _ => exact l2Flip_5 n x hx w
/-- the rows that have been laid after k rounds -/
def shG (n x y k : Nat) (j : Nat) : Int := if (j + (6 - y)) % 6 < k then rw (sh n x y) j else 0
theorem shG_step (n x y k : Nat) (hk : k < 6) (hy : y < 6) (j : Nat) (hj : j < 6) : (if j = (k + y) % 6 then rw (sh n x y) ((k + y) % 6) else shG n x y k j) = shG n x y (k + 1) j := by
  unfold shG
  by_cases e : j = (k + y) % 6
  · have h1 : (j + (6 - y)) % 6 < k + 1 := by omega
    rw [if_pos e, if_pos h1, e]
  · rw [if_neg e]
    by_cases h1 : (j + (6 - y)) % 6 < k
    · rw [if_pos h1, if_pos (by omega)]
    · rw [if_neg h1, if_neg (by omega)]
theorem l2Shift_n (n : Nat) (dx dy : Int) (w : World) : Calls Try.prog 81 #[(.agg #[.int .i64 (rw n 0), .int .i64 (rw n 1), .int .i64 (rw n 2), .int .i64 (rw n 3), .int .i64 (rw n 4), .int .i64 (rw n 5)]), .int .i64 dx, .int .i64 dy] w fun e w' => e = .returned (.agg #[.int .i64 (rw (sh n (m6 dx) (m6 dy)) 0), .int .i64 (rw (sh n (m6 dx) (m6 dy)) 1), .int .i64 (rw (sh n (m6 dx) (m6 dy)) 2), .int .i64 (rw (sh n (m6 dx) (m6 dy)) 3), .int .i64 (rw (sh n (m6 dx) (m6 dy)) 4), .int .i64 (rw (sh n (m6 dx) (m6 dy)) 5)]) ∧ Ext w w' := by
  obtain ⟨x, hx⟩ : ∃ x, x = m6 dx := ⟨_, rfl⟩
  obtain ⟨y, hy⟩ : ∃ y, y = m6 dy := ⟨_, rfl⟩
  have hxl : x < 6 := hx ▸ m6_lt dx
  have hyl : y < 6 := hy ▸ m6_lt dy
  have MX := Lib.hid (fun w => l2Mod_any dx w)
  have MY := Lib.hid (fun w => l2Mod_any dy w)
  rw [← hx] at MX ⊢
  rw [← hy] at MY ⊢
  clear hx hy
  go_enter Try.func81, Try.ntmps81
  go_wp2_with (first | (go_at_call 138; refine (MX.out _).mono ?_; rintro e w' ⟨rfl, rfl⟩) | (go_at_call 138; refine (MY.out _).mono ?_; rintro e w' ⟨rfl, rfl⟩))
  go_loopw [10] (fun i wr => ∃ k : Nat, k ≤ 6 ∧ i = .int .i64 k ∧ Ext w wr ∧ Arr wr w.heap.size (rw n) ∧ Arr wr (w.heap.size + 1) (fun _ => 0) ∧ Arr wr (w.heap.size + 2) (shG n x y k) ∧ w.heap.size + 2 < wr.heap.size) (fun i _ => 6 - (intOf i).toNat)
  case atStart =>
    refine ⟨0, Nat.zero_le _, rfl, (by (repeat' (first | (with_reducible exact Ext.refl _) | (with_reducible assumption) | (with_reducible refine Ext.alloc ?_ _) | (with_reducible refine Ext.drew ?_) | (with_reducible refine Ext.drewN ?_ _) | (with_reducible refine Ext.setCell ?_ ?_ _) | (with_reducible refine Ext.trans ?_ (by assumption)))) <;> (first | (with_reducible assumption) | omega | (simp; done) | (simp; omega))), ?_, ?_, ?_, by simp⟩
    · exact (((Arr.new w (rw n) _ rfl).alloc _ (by simp)).alloc _ (by simp; omega))
    · exact (Arr.new _ (fun _ => 0) _ (by simp)).alloc _ (by simp)
    · exact (Arr.new _ (fun _ => 0) _ (by simp)).congr (fun j hj => by unfold shG; rw [if_neg (by omega)])
  case round =>
    obtain ⟨k, hk, rfl, hx, ha, hr, hg, hz⟩ := hrel
    obtain ⟨wo, rfl⟩ : ∃ wo : World, wo = wr := ⟨_, rfl⟩
    have HA := Lib.hid ha
    have HG := Lib.hid hg
    have HR := Lib.hid hr
    clear ha hg hr
    by_cases hlt : k < 6
    · obtain ⟨c1, _⟩ := HA.out k hlt
      obtain ⟨c2, f2⟩ := HG.out ((k + y) % 6) (Nat.mod_lt _ (by omega))
      have b0 := rw_0 n k
      have b1 := rw_63 n k
      have HS := Lib.hid (shift_row n k x y hlt hxl hyl)
      have HT := Lib.hid (fun j hj => shG_step n x y k hlt hyl j hj)
      go_wp2
      refine wp_still 15 (by kernel_rfl) (by kernel_rfl) ?_; simp only [List.take_succ_cons, List.take_zero, List.drop_succ_cons, List.drop_zero]; (refine wpStill_step (fun K hK => ?_); go_simp; (try (go_ints; try go_simp)); first | (refine hK _ ?_; clear hK K) | (apply Exists.intro; refine ⟨?_, hK _ ?_⟩; (fail); clear hK K) | (simp only [↓IntWalk.iteOmega]; (try go_simp); (try (go_ints; try go_simp)); first | (refine hK _ ?_; clear hK K) | (apply Exists.intro; refine ⟨?_, hK _ ?_⟩; (fail); clear hK K))); (refine wpStill_step (fun K hK => ?_); go_simp; (try (go_ints; try go_simp)); first | (refine hK _ ?_; clear hK K) | (apply Exists.intro; refine ⟨?_, hK _ ?_⟩; (fail); clear hK K) | (simp only [↓IntWalk.iteOmega]; (try go_simp); (try (go_ints; try go_simp)); first | (refine hK _ ?_; clear hK K) | (apply Exists.intro; refine ⟨?_, hK _ ?_⟩; (fail); clear hK K))); (refine wpStill_step (fun K hK => ?_); go_simp; (try (go_ints; try go_simp)); first | (refine hK _ ?_; clear hK K) | (apply Exists.intro; refine ⟨?_, hK _ ?_⟩; (fail); clear hK K) | (simp only [↓IntWalk.iteOmega]; (try go_simp); (try (go_ints; try go_simp)); first | (refine hK _ ?_; clear hK K) | (apply Exists.intro; refine ⟨?_, hK _ ?_⟩; (fail); clear hK K))); (refine wpStill_step (fun K hK => ?_); go_simp; (try (go_ints; try go_simp)); first | (refine hK _ ?_; clear hK K) | (apply Exists.intro; refine ⟨?_, hK _ ?_⟩; (fail); clear hK K) | (simp only [↓IntWalk.iteOmega]; (try go_simp); (try (go_ints; try go_simp)); first | (refine hK _ ?_; clear hK K) | (apply Exists.intro; refine ⟨?_, hK _ ?_⟩; (fail); clear hK K))); (refine wpStill_step (fun K hK => ?_); go_simp; (try (go_ints; try go_simp)); first | (refine hK _ ?_; clear hK K) | (apply Exists.intro; refine ⟨?_, hK _ ?_⟩; (fail); clear hK K) | (simp only [↓IntWalk.iteOmega]; (try go_simp); (try (go_ints; try go_simp)); first | (refine hK _ ?_; clear hK K) | (apply Exists.intro; refine ⟨?_, hK _ ?_⟩; (fail); clear hK K))); (refine wpStill_step (fun K hK => ?_); go_simp; (try (go_ints; try go_simp)); first | (refine hK _ ?_; clear hK K) | (apply Exists.intro; refine ⟨?_, hK _ ?_⟩; (fail); clear hK K) | (simp only [↓IntWalk.iteOmega]; (try go_simp); (try (go_ints; try go_simp)); first | (refine hK _ ?_; clear hK K) | (apply Exists.intro; refine ⟨?_, hK _ ?_⟩; (fail); clear hK K))); (refine wpStill_step (fun K hK => ?_); go_simp; (try (go_ints; try go_simp)); first | (refine hK _ ?_; clear hK K) | (apply Exists.intro; refine ⟨?_, hK _ ?_⟩; (fail); clear hK K) | (simp only [↓IntWalk.iteOmega]; (try go_simp); (try (go_ints; try go_simp)); first | (refine hK _ ?_; clear hK K) | (apply Exists.intro; refine ⟨?_, hK _ ?_⟩; (fail); clear hK K))); (refine wpStill_step (fun K hK => ?_); go_simp; (try (go_ints; try go_simp)); first | (refine hK _ ?_; clear hK K) | (apply Exists.intro; refine ⟨?_, hK _ ?_⟩; (fail); clear hK K) | (simp only [↓IntWalk.iteOmega]; (try go_simp); (try (go_ints; try go_simp)); first | (refine hK _ ?_; clear hK K) | (apply Exists.intro; refine ⟨?_, hK _ ?_⟩; (fail); clear hK K))); (refine wpStill_step (fun K hK => ?_); go_simp; (try (go_ints; try go_simp)); first | (refine hK _ ?_; clear hK K) | (apply Exists.intro; refine ⟨?_, hK _ ?_⟩; (fail); clear hK K) | (simp only [↓IntWalk.iteOmega]; (try go_simp); (try (go_ints; try go_simp)); first | (refine hK _ ?_; clear hK K) | (apply Exists.intro; refine ⟨?_, hK _ ?_⟩; (fail); clear hK K))); (refine wpStill_step (fun K hK => ?_); go_simp; (try (go_ints; try go_simp)); first | (refine hK _ ?_; clear hK K) | (apply Exists.intro; refine ⟨?_, hK _ ?_⟩; (fail); clear hK K) | (simp only [↓IntWalk.iteOmega]; (try go_simp); (try (go_ints; try go_simp)); first | (refine hK _ ?_; clear hK K) | (apply Exists.intro; refine ⟨?_, hK _ ?_⟩; (fail); clear hK K))); (refine wpStill_step (fun K hK => ?_); go_simp; (try (go_ints; try go_simp)); first | (refine hK _ ?_; clear hK K) | (apply Exists.intro; refine ⟨?_, hK _ ?_⟩; (fail); clear hK K) | (simp only [↓IntWalk.iteOmega]; (try go_simp); (try (go_ints; try go_simp)); first | (refine hK _ ?_; clear hK K) | (apply Exists.intro; refine ⟨?_, hK _ ?_⟩; (fail); clear hK K))); (refine wpStill_step (fun K hK => ?_); go_simp; (try (go_ints; try go_simp)); first | (refine hK _ ?_; clear hK K) | (apply Exists.intro; refine ⟨?_, hK _ ?_⟩; (fail); clear hK K) | (simp only [↓IntWalk.iteOmega]; (try go_simp); (try (go_ints; try go_simp)); first | (refine hK _ ?_; clear hK K) | (apply Exists.intro; refine ⟨?_, hK _ ?_⟩; (fail); clear hK K))); (refine wpStill_step (fun K hK => ?_); go_simp; (try (go_ints; try go_simp)); first | (refine hK _ ?_; clear hK K) | (apply Exists.intro; refine ⟨?_, hK _ ?_⟩; (fail); clear hK K) | (simp only [↓IntWalk.iteOmega]; (try go_simp); (try (go_ints; try go_simp)); first | (refine hK _ ?_; clear hK K) | (apply Exists.intro; refine ⟨?_, hK _ ?_⟩; (fail); clear hK K))); (refine wpStill_step (fun K hK => ?_); go_simp; (try (go_ints; try go_simp)); first | (refine hK _ ?_; clear hK K) | (apply Exists.intro; refine ⟨?_, hK _ ?_⟩; (fail); clear hK K) | (simp only [↓IntWalk.iteOmega]; (try go_simp); (try (go_ints; try go_simp)); first | (refine hK _ ?_; clear hK K) | (apply Exists.intro; refine ⟨?_, hK _ ?_⟩; (fail); clear hK K))); (refine wpStill_step (fun K hK => ?_); go_simp; (try (go_ints; try go_simp)); first | (refine hK _ ?_; clear hK K) | (apply Exists.intro; refine ⟨?_, hK _ ?_⟩; (fail); clear hK K) | (simp only [↓IntWalk.iteOmega]; (try go_simp); (try (go_ints; try go_simp)); first | (refine hK _ ?_; clear hK K) | (apply Exists.intro; refine ⟨?_, hK _ ?_⟩; (fail); clear hK K))); refine wpStill_nil ?_
      go_wp2
      refine ⟨⟨k + 1, by omega, by go_num, (by (repeat' (first | (with_reducible exact Ext.refl _) | (with_reducible assumption) | (with_reducible refine Ext.alloc ?_ _) | (with_reducible refine Ext.drew ?_) | (with_reducible refine Ext.drewN ?_ _) | (with_reducible refine Ext.setCell ?_ ?_ _) | (with_reducible refine Ext.trans ?_ (by assumption)))) <;> (first | (with_reducible assumption) | omega | (simp; done) | (simp; omega))), ?_, ?_, ?_, by simp; omega⟩, by simp [intOf]; omega⟩
      · exact (HA.out).far (by simp; try omega) _
      · exact (HR.out).far (by simp; try omega) _
      · exact ((HG.out).set (p := (k + y) % 6) (Nat.mod_lt _ (by omega)) _).congr (fun j hj => by rw [← IntWalk.i64_left, HS.out]; exact HT.out j hj)
    · obtain rfl : k = 6 := by omega
      have e : ∀ j, j < 6 → shG n x y 6 j = rw (sh n x y) j := fun j hj => by unfold shG; rw [if_pos (by omega)]
      obtain ⟨⟨c0, c1, c2, c3, c4, c5⟩, _⟩ := (HG.out.congr e).all
      obtain ⟨⟨d0, d1, d2, d3, d4, d5⟩, f0, f1, f2, f3, f4, f5⟩ := HR.out.all
      clear e
      go_wp2
      exact bodyPost_ret (ret_cell rfl rfl (load_sheet (HR.out.six (rw (sh n x y))))) rfl ⟨rfl, (by (repeat' (first | (with_reducible exact Ext.refl _) | (with_reducible assumption) | (with_reducible refine Ext.alloc ?_ _) | (with_reducible refine Ext.drew ?_) | (with_reducible refine Ext.drewN ?_ _) | (with_reducible refine Ext.setCell ?_ ?_ _) | (with_reducible refine Ext.trans ?_ (by assumption)))) <;> (first | (with_reducible assumption) | omega | (simp; done) | (simp; omega)))⟩
end Go.Proofs.Ytlifhoajamnehaa
set_option linter.unusedVariables false
set_option linter.unusedSimpArgs false
set_option maxRecDepth 100000
set_option maxHeartbeats 1000000
namespace Go.Proofs.Ytlifhoajamnehaa
open Go Go.RowKit
theorem row_get (n y : Nat) (c : Int) (hn : n < 68719476736) (hc : c = ((2 ^ (6 * y) : Nat) : Int)) : wrap64 (bits .and .u64 ((n : Int) / c) 63) = rw n y := by
  subst hc
  have hle : n / 2 ^ (6 * y) ≤ n := Nat.div_le_self _ _
  have hr := rowN_lt n y
  rw [show ((n : Int) / ((2 ^ (6 * y) : Nat) : Int)) = ((n / 2 ^ (6 * y) : Nat) : Int) from rfl, show (63 : Int) = ((63 : Nat) : Int) from rfl, u64_and_nat _ _ (by omega) (by omega), nat_mask6]
  unfold rw rowN at *
  rw [IntWalk.wrap64_in _ (by omega)]
theorem row_get0 (n : Nat) (hn : n < 68719476736) : wrap64 (bits .and .u64 (n : Int) 63) = rw n 0 := by
  have := row_get n 0 1 hn rfl
  simpa using this
theorem sheet_n (n : Nat) (hn : n < 68719476736) (w : World) : Calls Try.prog 94 #[.int .u64 (n : Int)] w fun e w' => e = .returned (.agg #[.int .i64 (rw n 0), .int .i64 (rw n 1), .int .i64 (rw n 2), .int .i64 (rw n 3), .int .i64 (rw n 4), .int .i64 (rw n 5)]) ∧ Ext w w' := by
  go_enter Try.func94, Try.ntmps94
  go_wp2
  go_rounds 7
  go_returns
  exact ⟨sheet_eq (row_get0 n hn) (row_get n 1 _ hn rfl) (row_get n 2 _ hn rfl) (row_get n 3 _ hn rfl) (row_get n 4 _ hn rfl) (row_get n 5 _ hn rfl), (by (repeat' (first | (with_reducible exact Ext.refl _) | (with_reducible assumption) | (with_reducible refine Ext.alloc ?_ _) | (with_reducible refine Ext.drew ?_) | (with_reducible refine Ext.drewN ?_ _) | (with_reducible refine Ext.setCell ?_ ?_ _) | (with_reducible refine Ext.trans ?_ (by assumption)))) <;> (first | (with_reducible assumption) | omega | (simp; done) | (simp; omega)))⟩
theorem shifted1_any (x y dx dy : Nat) (hx : x < 36) (hy : y < 36) (hdx : dx < 36) (hdy : dy < 36) (a b : Addr) (w : World) (ha : w.cell? a = some (.int .i64 (dx : Int))) (hb : w.cell? b = some (.int .i64 (dy : Int))) :
    Calls Try.prog 142 #[.int .i64 (x : Int), .int .i64 (y : Int), .pointer (some a), .pointer (some b)] w fun e w' => e = .returned (.tuple #[.int .i64 (((x + dx) % 6 : Nat) : Int), .int .i64 (((y + dy) % 6 : Nat) : Int)]) ∧ Ext w w' := by
  go_enter Try.func142, Try.ntmps142
  go_wp2
  go_quiet (fail)
  go_wp2
  go_ret2
  exact ⟨ret2_ints (by omega) (by omega), (by (repeat' (first | (with_reducible exact Ext.refl _) | (with_reducible assumption) | (with_reducible refine Ext.alloc ?_ _) | (with_reducible refine Ext.drew ?_) | (with_reducible refine Ext.drewN ?_ _) | (with_reducible refine Ext.setCell ?_ ?_ _) | (with_reducible refine Ext.trans ?_ (by assumption)))) <;> (first | (with_reducible assumption) | omega | (simp; done) | (simp; omega)))⟩
theorem moved_shift (n : Nat) (hn : n < 68719476736) (dx dy : Nat) (hdx : dx < 6) (hdy : dy < 6) (b c : Nat) (w : World) (hb : w.cell? ⟨b, 0, none⟩ = some (.int .i64 (dx : Int))) (hc : w.cell? ⟨c, 0, none⟩ = some (.int .i64 (dy : Int))) (hbs : b < w.heap.size) (hcs : c < w.heap.size) :
    Calls Try.prog 141 #[.int .u64 (n : Int), .func (.func 142) #[] #[.pointer (some ⟨b, 0, none⟩), .pointer (some ⟨c, 0, none⟩)]] w fun e w' => e = .returned (.int .u64 ((sh n dx dy : Nat) : Int)) ∧ Ext w w' := by
  refine (moved_any n hn _ _ (fun k => (k % 6 + dx) % 6) (fun k => (k / 6 + dy) % 6) w Try.call142 fun k hk => ⟨Nat.mod_lt _ (by omega), Nat.mod_lt _ (by omega), fun w' hx => ?_⟩).mono ?_
  · exact shifted1_any (k % 6) (k / 6) dx dy (by omega) (by omega) (by omega) (by omega) _ _ w' ((hx.cells _ _ hbs).trans hb) ((hx.cells _ _ hcs).trans hc)
  · rintro e w' ⟨rfl, hx⟩
    refine ⟨ret_int (nat_int ?_), hx⟩
    rw [← mvN_sh n dx dy hdx hdy]
    refine congrArg (fun t => mvN n t 36) (funext fun k => ?_)
    unfold tgt
    omega
theorem shifted_any (n : Nat) (hn : n < 68719476736) (dx dy : Int) (w : World) :
    Calls Try.prog 87 #[.int .u64 (n : Int), .int .i64 dx, .int .i64 dy] w fun e w' => e = .returned (.int .u64 ((sh n (m6 dx) (m6 dy) : Nat) : Int)) ∧ Ext w w' := by
  go_enter Try.func87, Try.ntmps87
  go_wp2
  refine wp_calm 4 0 (fun _ => (#[], 0)) (by kernel_rfl) (by kernel_rfl) ?_; simp only [List.take_succ_cons, List.take_zero, List.drop_succ_cons, List.drop_zero]; intro hgr; (refine walkQ_step (fun K hK => ?_); go_simp; (try (go_ints; try go_simp)); first | (refine hK _ ?_; clear hK K) | (apply Exists.intro; refine ⟨fun _ => ?_, hK _ ?_⟩; ((go_at_call 140; exact calm_same (rest_any _ _))); clear hK K) | (simp only [↓IntWalk.iteOmega]; (try go_simp); (try (go_ints; try go_simp)); first | (refine hK _ ?_; clear hK K) | (apply Exists.intro; refine ⟨fun _ => ?_, hK _ ?_⟩; ((go_at_call 140; exact calm_same (rest_any _ _))); clear hK K))); (refine walkQ_step (fun K hK => ?_); go_simp; (try (go_ints; try go_simp)); first | (refine hK _ ?_; clear hK K) | (apply Exists.intro; refine ⟨fun _ => ?_, hK _ ?_⟩; ((go_at_call 140; exact calm_same (rest_any _ _))); clear hK K) | (simp only [↓IntWalk.iteOmega]; (try go_simp); (try (go_ints; try go_simp)); first | (refine hK _ ?_; clear hK K) | (apply Exists.intro; refine ⟨fun _ => ?_, hK _ ?_⟩; ((go_at_call 140; exact calm_same (rest_any _ _))); clear hK K))); (refine walkQ_step (fun K hK => ?_); go_simp; (try (go_ints; try go_simp)); first | (refine hK _ ?_; clear hK K) | (apply Exists.intro; refine ⟨fun _ => ?_, hK _ ?_⟩; ((go_at_call 140; exact calm_same (rest_any _ _))); clear hK K) | (simp only [↓IntWalk.iteOmega]; (try go_simp); (try (go_ints; try go_simp)); first | (refine hK _ ?_; clear hK K) | (apply Exists.intro; refine ⟨fun _ => ?_, hK _ ?_⟩; ((go_at_call 140; exact calm_same (rest_any _ _))); clear hK K))); (refine walkQ_step (fun K hK => ?_); go_simp; (try (go_ints; try go_simp)); first | (refine hK _ ?_; clear hK K) | (apply Exists.intro; refine ⟨fun _ => ?_, hK _ ?_⟩; ((go_at_call 140; exact calm_same (rest_any _ _))); clear hK K) | (simp only [↓IntWalk.iteOmega]; (try go_simp); (try (go_ints; try go_simp)); first | (refine hK _ ?_; clear hK K) | (apply Exists.intro; refine ⟨fun _ => ?_, hK _ ?_⟩; ((go_at_call 140; exact calm_same (rest_any _ _))); clear hK K))); refine walkQ_nil ?_; clear hgr; refine walkF_nil ?_; intro w1 hE _; have hc2 := hE.cells; have hf2 := hE.frees; have hz2 := hE.size
  go_wp2_with (go_at_call 141; refine (moved_shift n hn _ _ (m6_lt dx) (m6_lt dy) _ _ _ ?c1 ?c2 ?c3 ?c4).mono ?_; rotate_right; rintro e w1 ⟨rfl, hx⟩)
  case c1 => exact (World.cell?_setCell_other _ _ _ _ (by simp)).trans (World.cell?_setCell_same _ _ _ (u := .int .i64 dx) (by go_simp))
  case c2 => go_simp
  case c3 => simp at hz2 ⊢; omega
  case c4 => simp at hz2 ⊢; omega
  go_ret
  exact ⟨rfl, (by (repeat' (first | (with_reducible exact Ext.refl _) | (with_reducible assumption) | (with_reducible refine Ext.alloc ?_ _) | (with_reducible refine Ext.drew ?_) | (with_reducible refine Ext.drewN ?_ _) | (with_reducible refine Ext.setCell ?_ ?_ _) | (with_reducible refine Ext.trans ?_ (by assumption)))) <;> (first | (with_reducible assumption) | omega | (simp; done) | (simp; omega)))⟩
theorem where_any (f : FuncId) (caps : Array Value) (p : Nat → Bool) (w : World) (hcf : ∀ args w, (callFunc f args).run Try.prog w = .ok (.enter f args) w)
    (hg : ∀ k, k < 36 → ∀ w', Ext w w' → Calls Try.prog f (#[.int .i64 (k : Int)] ++ caps) w' fun e w'' => e = .returned (.bool (p k)) ∧ Ext w' w'') :
    Calls Try.prog 92 #[.func (.func f) #[] caps] w fun e w' => e = .returned (.int .u64 ((mkN p 36 : Nat) : Int)) ∧ Ext w w' := by
  have HG := Lib.hid hg
  clear hg
  go_enter Try.func92, Try.ntmps92
  go_wp2
  go_loopw [3, 5] (fun o i wr => ∃ k : Nat, k ≤ 36 ∧ i = .int .i64 k ∧ o = .int .u64 ((mkN p k : Nat) : Int) ∧ Ext w wr) (fun _ i _ => 36 - (intOf i).toNat)
  case atStart => exact ⟨0, Nat.zero_le _, rfl, rfl, Ext.refl _⟩
  case round =>
    obtain ⟨k, hk, rfl, rfl, hx⟩ := hrel
    by_cases hlt : k < 36
    · have hc' := Lib.hid (HG.out k hlt wr hx)
      have hS := Lib.hid (mkN_step p k hlt)
      by_cases hb : p k = true
      · go_wp2_with (refine (Hid.out hc').mono ?_; rintro e w1 ⟨rfl, hx1⟩)
        exact ⟨⟨k + 1, by omega, by go_num, val_int (hS.out.1 hb), hx.trans hx1⟩, by simp [intOf]; omega⟩
      · go_wp2_with (refine (Hid.out hc').mono ?_; rintro e w1 ⟨rfl, hx1⟩)
        exact ⟨⟨k + 1, by omega, by go_num, val_int (nat_int (hS.out.2 hb)), hx.trans hx1⟩, by simp [intOf]; omega⟩
    · obtain rfl : k = 36 := by omega
      go_wp2
      go_ret
      exact ⟨rfl, hx⟩
end Go.Proofs.Ytlifhoajamnehaa
set_option linter.unusedVariables false
set_option linter.unusedSimpArgs false
set_option maxRecDepth 100000
set_option maxHeartbeats 1000000
namespace Go.Proofs.Ytlifhoajamnehaa
open Go Go.RowKit
end Go.Proofs.Ytlifhoajamnehaa
