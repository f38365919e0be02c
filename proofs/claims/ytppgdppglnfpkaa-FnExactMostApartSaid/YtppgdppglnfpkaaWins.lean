/- Wins: contracts of functions, and lemmas, for this seat. Conditions: as each states. -/
import Derived.Test.YtppgdppglnfpkaaMirror
import Derived.Test.YtppgdppglnfpkaaOps
import Derived.Test.YtppgdppglnfpkaaEql
set_option linter.unusedVariables false
set_option maxRecDepth 100000
set_option maxHeartbeats 1000000
namespace Go.Proofs.Ytppgdppglnfpkaa
open Go Go.RowKit Instr
theorem rw_zero (j : Nat) : rw 0 j = 0 := by rw [rw_nat]; unfold rowN; rw [Nat.zero_div]; rfl
theorem eqS_zero {k : Nat} (hk : k < 68719476736) : eqS (rw k) (fun _ => 0) = decide (k = 0) := by
  rw [← eqS_rw hk (by omega : 0 < 68719476736)]
  unfold eqS
  simp only [rw_zero]
theorem playing_bad (r s : Nat → Int) (h : (vs r && vs s && nz s) = false) (w : World) : Calls Try.prog 92 #[(.agg #[.int .i64 (r 0), .int .i64 (r 1), .int .i64 (r 2), .int .i64 (r 3), .int .i64 (r 4), .int .i64 (r 5)]), (.agg #[.int .i64 (s 0), .int .i64 (s 1), .int .i64 (s 2), .int .i64 (s 3), .int .i64 (s 4), .int .i64 (s 5)])] w fun e w' => e = .returned (.tuple #[.int .u64 (setN r : Int), .int .u64 (setN s : Int), .bool false]) ∧ Ext w w' := by
  cases h1 : vs r <;> cases h2 : vs s
  rotate_right
  · have h0 : setN s = 0 := by
      rw [h1, h2] at h
      have h4 : nz s = false := by simpa using h
      exact Decidable.not_not.1 (of_decide_eq_false h4)
    have HT := Lib.hid (fun w => twoSets_is r s _ _ h1 h2 w)
    rw [h0] at HT ⊢
    clear h h0 h1 h2
    skip
    go_enter Try.func92, Try.ntmps92
    go_wp2_with (go_at_call 78; refine (HT.out _).mono ?_; rintro e w1 ⟨rfl, hE⟩)
    go_returns
    exact ⟨rfl, (by (repeat' (first | (with_reducible exact Ext.refl _) | (with_reducible assumption) | (with_reducible refine Ext.alloc ?_ _) | (with_reducible refine Ext.drew ?_) | (with_reducible refine Ext.drewN ?_ _) | (with_reducible refine Ext.setCell ?_ ?_ _) | (with_reducible refine Ext.trans ?_ (by assumption)))) <;> (first | (with_reducible assumption) | omega | (simp; done) | (simp; omega)))⟩
  all_goals
    have HT := Lib.hid (fun w => twoSets_is r s _ _ h1 h2 w)
    clear h h1 h2
    skip
    go_enter Try.func92, Try.ntmps92
    go_wp2_with (go_at_call 78; refine (HT.out _).mono ?_; rintro e w1 ⟨rfl, hE⟩)
    go_returns
    exact ⟨rfl, (by (repeat' (first | (with_reducible exact Ext.refl _) | (with_reducible assumption) | (with_reducible refine Ext.alloc ?_ _) | (with_reducible refine Ext.drew ?_) | (with_reducible refine Ext.drewN ?_ _) | (with_reducible refine Ext.setCell ?_ ?_ _) | (with_reducible refine Ext.trans ?_ (by assumption)))) <;> (first | (with_reducible assumption) | omega | (simp; done) | (simp; omega)))⟩
theorem ret3_bool {a b : Bool} {u v : Value} (h : a = b) : Ending.returned (.tuple #[u, v, .bool a]) = .returned (.tuple #[u, v, .bool b]) := by rw [h]
theorem playing_n (n m : Nat) (hn : n < 68719476736) (hm : m < 68719476736) (h : m ≠ 0) (w : World) : Calls Try.prog 92 #[(.agg #[.int .i64 (rw n 0), .int .i64 (rw n 1), .int .i64 (rw n 2), .int .i64 (rw n 3), .int .i64 (rw n 4), .int .i64 (rw n 5)]), (.agg #[.int .i64 (rw m 0), .int .i64 (rw m 1), .int .i64 (rw m 2), .int .i64 (rw m 3), .int .i64 (rw m 4), .int .i64 (rw m 5)])] w fun e w' => e = .returned (.tuple #[.int .u64 (n : Int), .int .u64 (m : Int), .bool true]) ∧ Ext w w' := by
  skip
  go_enter Try.func92, Try.ntmps92
  go_wp2_with (go_at_call 78; refine (twoSets_n n m hn hm _).mono ?_; rintro e w1 ⟨rfl, hE⟩)
  go_returns
  exact ⟨ret3_bool (by simp; omega), (by (repeat' (first | (with_reducible exact Ext.refl _) | (with_reducible assumption) | (with_reducible refine Ext.alloc ?_ _) | (with_reducible refine Ext.drew ?_) | (with_reducible refine Ext.drewN ?_ _) | (with_reducible refine Ext.setCell ?_ ?_ _) | (with_reducible refine Ext.trans ?_ (by assumption)))) <;> (first | (with_reducible assumption) | omega | (simp; done) | (simp; omega)))⟩
/-- what MirrorWins answers -/
def mw (n m : Nat) : Bool := decide (sh n 3 3 = n) && decide (m &&& sh m 3 3 = 0)
end Go.Proofs.Ytppgdppglnfpkaa
