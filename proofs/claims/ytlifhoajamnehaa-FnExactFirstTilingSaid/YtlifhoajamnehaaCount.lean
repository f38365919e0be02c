/- Count: contracts of functions, and lemmas, for this seat. Conditions: as each states. -/
import Derived.Test.YtlifhoajamnehaaVs
set_option linter.unusedVariables false
set_option maxRecDepth 100000
set_option maxHeartbeats 1000000
namespace Go.Proofs.Ytlifhoajamnehaa
open Go Go.RowKit
theorem cnt_step (n k j q : Nat) (hj : j < 6) (hq : q = rowN n k / 2 ^ j) : ((cntN n (6 * k + j) : Nat) : Int) + (q : Int) % 2 = ((cntN n (6 * k + (j + 1)) : Nat) : Int) ∧ (q : Int) / 2 = ((rowN n k / 2 ^ (j + 1) : Nat) : Int) := by
  constructor
  · rw [show 6 * k + (j + 1) = 6 * k + j + 1 by omega, cntN_bit, ← row_bit n k j hj, ← hq]
    omega
  · rw [Nat.pow_succ, ← Nat.div_div_eq_div_mul, ← hq]
    omega
theorem row_6 (n k : Nat) : rowN n k / 2 ^ 6 = 0 := Nat.div_eq_of_lt (rowN_lt n k)
theorem cnt_zero {n : Nat} (hn : n < 68719476736) : cnt n = 0 ↔ n = 0 := by
  constructor
  · intro h
    refine ext36 hn (by omega) fun k hk => ?_
    rw [Nat.zero_testBit]
    have key : ∀ m, cntN n m = 0 → ∀ k, k < m → n.testBit k = false := by
      intro m
      induction m with
      | zero => intro _ k hk; omega
      | succ m ih =>
        intro h k hk
        rw [cntN] at h
        by_cases hb : n.testBit m = true
        · rw [if_pos hb] at h; omega
        · rcases Nat.lt_or_ge k m with h1 | h1
          · exact ih (by omega) k h1
          · obtain rfl : k = m := by omega
            simpa using hb
    exact key 36 h k hk
  · rintro rfl
    decide +kernel
theorem l2Count_n (n : Nat) (w : World) : Calls Try.prog 104 #[(.agg #[.int .i64 (rw n 0), .int .i64 (rw n 1), .int .i64 (rw n 2), .int .i64 (rw n 3), .int .i64 (rw n 4), .int .i64 (rw n 5)])] w fun e w' => e = .returned (.int .i64 (cnt n : Nat)) ∧ Ext w w' := by
  go_enter Try.func104, Try.ntmps104
  go_wp2
  go_loop [3, 4] (fun m i => ∃ k : Nat, k ≤ 6 ∧ i = .int .i64 k ∧ m = .int .i64 (cntN n (6 * k) : Nat)) (fun _ i => 6 - (intOf i).toNat)
  case atStart => exact ⟨0, Nat.zero_le _, rfl, rfl⟩
  case round =>
    obtain ⟨k, hk, rfl, rfl⟩ := hrel
    have hm := cntN_le n (6 * k)
    by_cases hlt : k < 6
    · have c := cell6_at w (rw n) 26 k hlt
      rw [rw_nat] at c
      have hd : decide ((k : Int) < 6) = true := decide_eq_true (by omega)
      go_wp2
      go_loop [3, 5] (fun m r => ∃ j q : Nat, j ≤ 6 ∧ q = rowN n k / 2 ^ j ∧ r = .int .i64 (q : Nat) ∧ m = .int .i64 (cntN n (6 * k + j) : Nat)) (fun _ r => (intOf r).toNat)
      case atStart => exact ⟨0, _, Nat.zero_le _, (by rw [Nat.pow_zero, Nat.div_one]), (by first | rfl | (have h := get6 (rw n) k hlt; simp [hlt] at h; rw [h, rw_nat])), rfl⟩
      case round =>
        obtain ⟨j, q, hj, hq, rfl, rfl⟩ := hrel
        have hm := cntN_le n (6 * k + j)
        have hq6 : q < 64 := by rw [hq]; exact Nat.lt_of_le_of_lt (Nat.div_le_self _ _) (rowN_lt n k)
        have HQ := Lib.hid hq
        clear hq
        by_cases h0 : q = 0
        · have HC := Lib.hid (cnt_rest n k j hj (by rw [← HQ.out]; exact h0))
          subst h0
          go_wp2
          (first | exact ⟨⟨k + 1, by omega, by go_num, val_int (nat_int (HC.out.trans (by rw [show 6 * (k + 1) = 6 * k + 6 by omega])))⟩, by simp [intOf]; omega⟩ | (refine ⟨?_, by simp [intOf]; omega⟩; (repeat apply Exists.intro); exact ⟨⟨k + 1, by omega, by go_num, val_int (nat_int (HC.out.trans (by rw [show 6 * (k + 1) = 6 * k + 6 by omega])))⟩, rfl⟩))
        · have hj6 : j < 6 := by
            rcases Nat.lt_or_ge j 6 with h | h
            · exact h
            · exact absurd (by rw [HQ.out, show j = 6 by omega]; exact row_6 n k) h0
          have HS := Lib.hid (cnt_step n k j q hj6 HQ.out)
          go_wp2
          (first | exact ⟨⟨j + 1, _, by omega, rfl, val_int HS.out.2, val_int HS.out.1⟩, by simp [intOf]; omega⟩ | (refine ⟨?_, by simp [intOf]; omega⟩; (repeat apply Exists.intro); exact ⟨⟨j + 1, _, by omega, rfl, val_int HS.out.2, val_int HS.out.1⟩, rfl⟩))
    · obtain rfl : k = 6 := by omega
      go_wp2
      go_ret
      exact ⟨rfl, (by (repeat' (first | (with_reducible exact Ext.refl _) | (with_reducible assumption) | (with_reducible refine Ext.alloc ?_ _) | (with_reducible refine Ext.drew ?_) | (with_reducible refine Ext.drewN ?_ _) | (with_reducible refine Ext.setCell ?_ ?_ _) | (with_reducible refine Ext.trans ?_ (by assumption)))) <;> (first | (with_reducible assumption) | omega | (simp; done) | (simp; omega)))⟩
end Go.Proofs.Ytlifhoajamnehaa
