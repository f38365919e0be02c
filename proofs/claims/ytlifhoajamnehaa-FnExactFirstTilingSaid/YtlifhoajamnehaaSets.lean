/- Sets: contracts of functions, and lemmas, for this seat. Conditions: as each states. -/
import Derived.Test.YtlifhoajamnehaaBase
set_option linter.unusedVariables false
set_option maxRecDepth 100000
set_option maxHeartbeats 1000000
namespace Go.Proofs.Ytlifhoajamnehaa
open Go Go.RowKit
theorem bad_first {r : Nat → Int} (h : ¬ okR r) : ∃ m, m < 6 ∧ (∀ k, k < m → 0 ≤ r k ∧ r k ≤ 63) ∧ ¬ (0 ≤ r m ∧ r m ≤ 63) := by
  have step : ∀ j, (∀ k, k < j → 0 ≤ r k ∧ r k ≤ 63) ∨ ∃ m, m < j ∧ (∀ k, k < m → 0 ≤ r k ∧ r k ≤ 63) ∧ ¬ (0 ≤ r m ∧ r m ≤ 63) := by
    intro j
    induction j with
    | zero => exact .inl fun k hk => absurd hk (Nat.not_lt_zero _)
    | succ j ih =>
      rcases ih with h1 | ⟨m, h1, h2, h3⟩
      · by_cases hj : 0 ≤ r j ∧ r j ≤ 63
        · refine .inl fun k hk => ?_
          by_cases e : k = j
          · subst e; exact hj
          · exact h1 k (by omega)
        · exact .inr ⟨j, by omega, h1, hj⟩
      · exact .inr ⟨m, by omega, h2, h3⟩
  rcases step 6 with h1 | ⟨m, h1, h2, h3⟩
  · exact absurd h1 h
  · exact ⟨m, h1, h2, h3⟩
theorem row_put (n k : Nat) (hk : k < 6) : bits .or .u64 ((pkN (rowN n) k : Nat) : Int) (IntKind.u64.wrap (rw n k * 2 ^ (k * 6))) = ((pkN (rowN n) (k + 1) : Nat) : Int) := by
  have h1 := pkN_lt (rowN n) (rowN_lt n) k
  have h2 := pkN_lt (rowN n) (rowN_lt n) (k + 1)
  have h3 : rowN n k * 2 ^ (6 * k) < 68719476736 := by
    have := rowN_lt n k
    have e : (68719476736 : Nat) = 64 * 2 ^ 30 := rfl
    rw [e]
    refine Nat.mul_lt_mul_of_lt_of_le this (Nat.pow_le_pow_right (by omega) (by omega)) (by omega)
  have h4 : pkN (rowN n) k < 68719476736 := Nat.lt_of_lt_of_le h1 (show 2 ^ (6 * k) ≤ 2 ^ 36 from Nat.pow_le_pow_right (by omega) (by omega))
  have e : rw n k * 2 ^ (k * 6) = ((rowN n k * 2 ^ (6 * k) : Nat) : Int) := by unfold rw; rw [Nat.mul_comm k 6]; simp
  rw [e, IntWalk.u64_in _ ⟨Int.natCast_nonneg _, by omega⟩, or64 h4 h3]
  rfl
theorem mkN_step (p : Nat → Bool) (k : Nat) (hk : k < 36) :
    (p k = true → bits .or .u64 ((mkN p k : Nat) : Int) (IntKind.u64.wrap (2 ^ k)) = ((mkN p (k + 1) : Nat) : Int)) ∧ (¬ p k = true → mkN p k = mkN p (k + 1)) := by
  have h1 : mkN p k < 68719476736 := Nat.lt_of_lt_of_le (mkN_lt p k) (show 2 ^ k ≤ 2 ^ 36 from Nat.pow_le_pow_right (by omega) (by omega))
  refine ⟨fun h => ?_, fun h => ?_⟩
  · rw [bit_put _ hk, or64 h1 (pow36 hk)]
    rw [mkN, if_pos h]
  · rw [mkN, if_neg h]
theorem mvN_step (n : Nat) (t : Nat → Nat) (ht : ∀ k, k < 36 → t k < 36) (k : Nat) (hk : k < 36) :
    (n.testBit k = true → bits .or .u64 ((mvN n t k : Nat) : Int) (IntKind.u64.wrap (2 ^ t k)) = ((mvN n t (k + 1) : Nat) : Int)) ∧ (¬ n.testBit k = true → mvN n t k = mvN n t (k + 1)) := by
  refine ⟨fun h => ?_, fun h => ?_⟩
  · rw [bit_put _ (ht k hk), or64 (mvN_lt n t k fun j hj => ht j (by omega)) (pow36 (ht k hk))]
    rw [mvN, if_pos h]
  · rw [mvN, if_neg h]
theorem idx6 (r : Nat → Int) (k : Nat) (hk : k < 6) : ∀ w, (Instr.index 24 (.agg #[.int .i64 (r 0), .int .i64 (r 1), .int .i64 (r 2), .int .i64 (r 3), .int .i64 (r 4), .int .i64 (r 5)]) (.int .i64 (k : Int))).run Try.prog w = .ok (.int .i64 (r k)) w := by
  intro w
  match k, hk with
  | 0, _ => exact (by kernel_rfl : (Instr.index 24 (.agg #[.int .i64 (r 0), .int .i64 (r 1), .int .i64 (r 2), .int .i64 (r 3), .int .i64 (r 4), .int .i64 (r 5)]) (.int .i64 0)).run Try.prog w = .ok (.int .i64 (r 0)) w)
  | 1, _ => exact (by kernel_rfl : (Instr.index 24 (.agg #[.int .i64 (r 0), .int .i64 (r 1), .int .i64 (r 2), .int .i64 (r 3), .int .i64 (r 4), .int .i64 (r 5)]) (.int .i64 1)).run Try.prog w = .ok (.int .i64 (r 1)) w)
  | 2, _ => exact (by kernel_rfl : (Instr.index 24 (.agg #[.int .i64 (r 0), .int .i64 (r 1), .int .i64 (r 2), .int .i64 (r 3), .int .i64 (r 4), .int .i64 (r 5)]) (.int .i64 2)).run Try.prog w = .ok (.int .i64 (r 2)) w)
  | 3, _ => exact (by kernel_rfl : (Instr.index 24 (.agg #[.int .i64 (r 0), .int .i64 (r 1), .int .i64 (r 2), .int .i64 (r 3), .int .i64 (r 4), .int .i64 (r 5)]) (.int .i64 3)).run Try.prog w = .ok (.int .i64 (r 3)) w)
  | 4, _ => exact (by kernel_rfl : (Instr.index 24 (.agg #[.int .i64 (r 0), .int .i64 (r 1), .int .i64 (r 2), .int .i64 (r 3), .int .i64 (r 4), .int .i64 (r 5)]) (.int .i64 4)).run Try.prog w = .ok (.int .i64 (r 4)) w)
  | 5, _ => exact (by kernel_rfl : (Instr.index 24 (.agg #[.int .i64 (r 0), .int .i64 (r 1), .int .i64 (r 2), .int .i64 (r 3), .int .i64 (r 4), .int .i64 (r 5)]) (.int .i64 5)).run Try.prog w = .ok (.int .i64 (r 5)) w)
theorem setOf_n (n : Nat) (hn : n < 68719476736) (w : World) : Calls Try.prog 77 #[(.agg #[.int .i64 (rw n 0), .int .i64 (rw n 1), .int .i64 (rw n 2), .int .i64 (rw n 3), .int .i64 (rw n 4), .int .i64 (rw n 5)])] w fun e w' => e = .returned (.tuple #[.int .u64 (n : Int), .bool true]) ∧ Ext w w' := by
  have hp := Lib.hid (pkN_rowN hn)
  go_enter Try.func77, Try.ntmps77
  go_wp2
  go_loop [4, 9] (fun o i => ∃ k : Nat, k ≤ 6 ∧ i = .int .i64 k ∧ o = .int .u64 ((pkN (rowN n) k : Nat) : Int)) (fun _ i => 6 - (intOf i).toNat)
  case atStart => exact ⟨0, Nat.zero_le _, rfl, rfl⟩
  case round =>
    obtain ⟨k, hk, rfl, rfl⟩ := hrel
    by_cases hlt : k < 6
    · have hi := idx6 (rw n) k hlt
      have h0 := rw_0 n k
      have h1 := rw_63 n k
      go_wp2
      go_round
      case rel => exact ⟨k + 1, by omega, by go_num, val_int (row_put n k hlt)⟩
      case measure => simp [intOf]; omega
    · obtain rfl : k = 6 := by omega
      go_wp2
      go_ret2
      exact ⟨ret2_int (nat_int hp.out), (by (repeat' (first | (with_reducible exact Ext.refl _) | (with_reducible assumption) | (with_reducible refine Ext.alloc ?_ _) | (with_reducible refine Ext.drew ?_) | (with_reducible refine Ext.drewN ?_ _) | (with_reducible refine Ext.setCell ?_ ?_ _) | (with_reducible refine Ext.trans ?_ (by assumption)))) <;> (first | (with_reducible assumption) | omega | (simp; done) | (simp; omega)))⟩
theorem setOf_bad (r : Nat → Int) (hb : ¬ okR r) (w : World) : Calls Try.prog 77 #[(.agg #[.int .i64 (r 0), .int .i64 (r 1), .int .i64 (r 2), .int .i64 (r 3), .int .i64 (r 4), .int .i64 (r 5)])] w fun e w' => e = .returned (.tuple #[.int .u64 0, .bool false]) ∧ Ext w w' := by
  obtain ⟨m, hm, hg0, hbad⟩ := bad_first hb
  have hg := Lib.hid hg0
  clear hg0 hb
  go_enter Try.func77, Try.ntmps77
  go_wp2
  go_loop [4, 9] (fun o i => ∃ (k : Nat) (x : Int), k ≤ m ∧ i = .int .i64 k ∧ o = .int .u64 x) (fun _ i => 6 - (intOf i).toNat)
  case atStart => exact ⟨0, 0, Nat.zero_le _, rfl, rfl⟩
  case round =>
    obtain ⟨k, x, hk, rfl, rfl⟩ := hrel
    have hi := idx6 r k (by omega)
    by_cases hlt : k < m
    · obtain ⟨h0, h1⟩ := hg.out k hlt
      go_wp2
      go_round
      case rel => exact ⟨k + 1, _, by omega, by go_num, rfl⟩
      case measure => simp [intOf]; omega
    · obtain rfl : k = m := by omega
      by_cases h0 : r k < 0
      · go_wp2
        go_ret2
        exact ⟨rfl, (by (repeat' (first | (with_reducible exact Ext.refl _) | (with_reducible assumption) | (with_reducible refine Ext.alloc ?_ _) | (with_reducible refine Ext.drew ?_) | (with_reducible refine Ext.drewN ?_ _) | (with_reducible refine Ext.setCell ?_ ?_ _) | (with_reducible refine Ext.trans ?_ (by assumption)))) <;> (first | (with_reducible assumption) | omega | (simp; done) | (simp; omega)))⟩
      · have h1 : 63 < r k := by omega
        go_wp2
        go_ret2
        exact ⟨rfl, (by (repeat' (first | (with_reducible exact Ext.refl _) | (with_reducible assumption) | (with_reducible refine Ext.alloc ?_ _) | (with_reducible refine Ext.drew ?_) | (with_reducible refine Ext.drewN ?_ _) | (with_reducible refine Ext.setCell ?_ ?_ _) | (with_reducible refine Ext.trans ?_ (by assumption)))) <;> (first | (with_reducible assumption) | omega | (simp; done) | (simp; omega)))⟩
/-- cells that a function moves -/
theorem moved_any (n : Nat) (hn : n < 68719476736) (f : FuncId) (caps : Array Value) (tx ty : Nat → Nat) (w : World) (hcf : ∀ args w, (callFunc f args).run Try.prog w = .ok (.enter f args) w)
    (hg : ∀ k, k < 36 → tx k < 6 ∧ ty k < 6 ∧ ∀ w', Ext w w' → Calls Try.prog f (#[.int .i64 ((k : Int) % 6), .int .i64 ((k : Int) / 6)] ++ caps) w' fun e w'' => e = .returned (.tuple #[.int .i64 (tx k : Int), .int .i64 (ty k : Int)]) ∧ Ext w' w'') :
    Calls Try.prog 141 #[.int .u64 (n : Int), .func (.func f) #[] caps] w fun e w' => e = .returned (.int .u64 ((mvN n (fun k => ty k * 6 + tx k) 36 : Nat) : Int)) ∧ Ext w w' := by
  have HG := Lib.hid hg
  clear hg
  go_enter Try.func141, Try.ntmps141
  go_wp2
  go_loopw [5, 9] (fun o i wr => ∃ k : Nat, k ≤ 36 ∧ i = .int .i64 k ∧ o = .int .u64 ((mvN n (fun k => ty k * 6 + tx k) k : Nat) : Int) ∧ Ext w wr) (fun _ i _ => 36 - (intOf i).toNat)
  case atStart => exact ⟨0, Nat.zero_le _, rfl, rfl, Ext.refl _⟩
  case round =>
    obtain ⟨k, hk, rfl, rfl, hx⟩ := hrel
    by_cases hlt : k < 36
    · obtain ⟨h1, h2, hc⟩ := HG.out k hlt
      have hc' := Lib.hid (hc wr hx)
      have hS := Lib.hid (mvN_step n (fun k => ty k * 6 + tx k) (fun k hk => by obtain ⟨a, b, _⟩ := HG.out k hk; show _ < 36; omega) k hlt)
      clear hc
      by_cases hb : n.testBit k = true
      · go_wp2_with (first | (go_at_call 157; refine (has_any n k hn hlt _).mono ?_; rintro e w' ⟨rfl, rfl⟩) | (refine (Hid.out hc').mono ?_; rintro e w1 ⟨rfl, hx1⟩))
        exact ⟨⟨k + 1, by omega, by go_num, val_int (hS.out.1 hb), hx.trans hx1⟩, by simp [intOf]; omega⟩
      · go_wp2_with (go_at_call 157; refine (has_any n k hn hlt _).mono ?_; rintro e w' ⟨rfl, rfl⟩)
        exact ⟨⟨k + 1, by omega, by go_num, val_int (nat_int (hS.out.2 hb)), hx⟩, by simp [intOf]; omega⟩
    · obtain rfl : k = 36 := by omega
      go_wp2
      go_ret
      exact ⟨rfl, hx⟩
end Go.Proofs.Ytlifhoajamnehaa
