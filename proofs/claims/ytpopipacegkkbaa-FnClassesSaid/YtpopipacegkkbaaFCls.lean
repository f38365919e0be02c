/- FCls: contracts of functions, and lemmas, for this seat. Conditions: as each states. -/
import Derived.Test.YtpopipacegkkbaaCls
import Derived.Test.YtpopipacegkkbaaDrawA
import Derived.Test.YtpopipacegkkbaaVCut
set_option linter.unusedVariables false
set_option maxRecDepth 100000
set_option maxHeartbeats 4000000
namespace Go.Proofs.Ytpopipacegkkbaa
open Go Go.RowKit Instr
theorem kept_facts : ∀ x, x < 6 → ∀ y, y < 6 → ∀ s, s < 37 → (keptN x y (36 - s) = keptN x y s ∧ decide (0 < keptN x y s) = decide (s % ordN x y = 0)) := by decide +kernel
theorem sum_facts : ∀ n, n < 37 → (sumK n 36 = 36 * (sumK n 36 / 36) ∧ sumK (36 - n) 36 = sumK n 36 ∧ (n = 1 → sumK n 36 = 36)) := by decide +kernel
def Vec (x y : Int) (O : Nat) : Prop := (0 ≤ x ∧ x < 6) ∧ (0 ≤ y ∧ y < 6) ∧ 1 ≤ O ∧ O ≤ 6 ∧ (6 % (O : Int) = 0) ∧ ((O : Int) * x) % 6 = 0 ∧ ((O : Int) * y) % 6 = 0 ∧ (0 ≤ (O : Int) * x ∧ (O : Int) * x ≤ 36) ∧ (0 ≤ (O : Int) * y ∧ (O : Int) * y ≤ 36)
theorem vec_of (x y : Nat) (px : x < 6) (py : y < 6) : Vec (x : Int) (y : Int) (ordN x y) := by
  obtain ⟨o1, o2, o3, o4, _⟩ := ord_facts x px y py
  have o5 : ordN x y * x % 6 = 0 ∧ ordN x y * y % 6 = 0 := by unfold okO at o1; simpa using o1
  have m1 : ordN x y * x ≤ 6 * 6 := Nat.mul_le_mul o3 (by omega)
  have m2 : ordN x y * y ≤ 6 * 6 := Nat.mul_le_mul o3 (by omega)
  have e1 : ((ordN x y : Nat) : Int) * (x : Int) = ((ordN x y * x : Nat) : Int) := by simp
  have e2 : ((ordN x y : Nat) : Int) * (y : Int) = ((ordN x y * y : Nat) : Int) := by simp
  refine ⟨by omega, by omega, o2, o3, ?_, ?_, ?_, ?_, ?_⟩
  · exact_mod_cast o4
  · rw [e1]; omega
  · rw [e2]; omega
  · rw [e1]; omega
  · rw [e2]; omega
/-- what is told of a vector and a size -/
theorem facts1 (x y s : Int) (hs : -1 ≤ s ∧ s ≤ 37) : ∃ (K O : Nat) (b1 b2 : Bool),
    (∀ w, Calls Try.prog 17 #[(.agg #[.int .i64 (x), .int .i64 (y)]), .int .i64 s] w fun e w' => e = .returned (.tuple #[.int .i64 (K : Nat), .bool b1]) ∧ Ext w w') ∧
    (∀ w, Calls Try.prog 18 #[(.agg #[.int .i64 (x), .int .i64 (y)]), .int .i64 s] w fun e w' => e = .returned (.tuple #[.int .i64 (K : Nat), .bool b1]) ∧ Ext w w') ∧
    (∀ w, Calls Try.prog 19 #[(.agg #[.int .i64 (x), .int .i64 (y)])] w fun e w' => e = .returned (.tuple #[.int .i64 (O : Nat), .bool b2]) ∧ Ext w w') ∧
    (∀ w, Calls Try.prog 20 #[(.agg #[.int .i64 (x), .int .i64 (y)])] w fun e w' => e = .returned (.tuple #[.int .i64 (O : Nat), .bool b2]) ∧ Ext w w') ∧
    ((b1 = false ∧ b2 = false) ∨ (b1 = false ∧ b2 = true ∧ Vec x y O) ∨
     (b1 = true ∧ b2 = true ∧ Vec x y O ∧ 0 ≤ s ∧ s < 37 ∧ K ≤ 10000000000 ∧ ((0 < K ∧ (s % (O : Int) == 0) = true) ∨ (K = 0 ∧ (s % (O : Int) == 0) = false)) ∧
      (∀ w, Calls Try.prog 17 #[(.agg #[.int .i64 (x), .int .i64 (y)]), .int .i64 (36 - s)] w fun e w' => e = .returned (.tuple #[.int .i64 (K : Nat), .bool true]) ∧ Ext w w'))) := by
  cases hc : okC x y with
  | false => exact ⟨0, 0, false, false, fun w => CountKept_bad x y s (by rw [hc]; rfl) w, fun w => sCountKept_bad x y s (by rw [hc]; rfl) w, fun w => OrderOf_bad x y hc w, fun w => sOrderOf_bad x y hc w, .inl ⟨rfl, rfl⟩⟩
  | true =>
    obtain ⟨⟨hx0, hx1⟩, hy0, hy1⟩ := (okC_iff x y).1 hc
    obtain ⟨x', rfl⟩ : ∃ x' : Nat, x = x' := ⟨x.toNat, by omega⟩
    obtain ⟨y', rfl⟩ : ∃ y' : Nat, y = y' := ⟨y.toNat, by omega⟩
    have px : x' < 6 := by omega
    have py : y' < 6 := by omega
    have hv := vec_of x' y' px py
    obtain ⟨_, o2, o3, _⟩ := ord_facts x' px y' py
    cases hr : inR s 0 36 with
    | false => exact ⟨0, ordN x' y', false, true, fun w => CountKept_bad _ _ s (by rw [hc, hr]; rfl) w, fun w => sCountKept_bad _ _ s (by rw [hc, hr]; rfl) w, fun w => OrderOf_ok x' y' px py w, fun w => sOrderOf_ok x' y' px py w, .inr (.inl ⟨rfl, rfl, hv⟩)⟩
    | true =>
      obtain ⟨s', rfl⟩ : ∃ s' : Nat, s = s' := ⟨s.toNat, by unfold inR at hr; simp at hr; omega⟩
      have ps : s' < 37 := by unfold inR at hr; simp at hr; omega
      obtain ⟨k1, k2⟩ := kept_facts x' px y' py s' ps
      have k3 : (0 < keptN x' y' s' ∧ ((s' : Int) % (ordN x' y' : Int) == 0) = true) ∨ (keptN x' y' s' = 0 ∧ ((s' : Int) % (ordN x' y' : Int) == 0) = false) := by
        have e : ((s' : Int) % (ordN x' y' : Int) == 0) = decide (s' % ordN x' y' = 0) := by
          rw [Bool.eq_iff_iff]
          simp only [beq_iff_eq, decide_eq_true_eq]
          omega
        rw [e, ← k2]
        rcases Nat.eq_zero_or_pos (keptN x' y' s') with h | h
        · exact .inr ⟨h, by rw [h]; rfl⟩
        · exact .inl ⟨h, by simpa using h⟩
      refine ⟨keptN x' y' s', ordN x' y', true, true, fun w => CountKept_ok x' y' s' px py ps w, fun w => sCountKept_ok x' y' s' px py ps w, fun w => OrderOf_ok x' y' px py w, fun w => sOrderOf_ok x' y' px py w, .inr (.inr ⟨rfl, rfl, hv, by omega, by omega, kept_le x' y' s' px py ps, k3, fun w => ?_⟩)⟩
      have := CountKept_ok x' y' (36 - s') px py (by omega) w
      rw [k1, show ((36 - s' : Nat) : Int) = 36 - (s' : Int) by omega] at this
      exact this
theorem facts2 (n : Int) (hn : -1 ≤ n ∧ n ≤ 37) : ∃ (M : Nat) (b3 : Bool),
    (∀ w, Calls Try.prog 23 #[.int .i64 n] w fun e w' => e = .returned (.tuple #[.int .i64 (M : Nat), .bool b3]) ∧ Ext w w') ∧
    (∀ w, Calls Try.prog 24 #[.int .i64 n] w fun e w' => e = .returned (.tuple #[.int .i64 (M : Nat), .bool b3]) ∧ Ext w w') ∧
    (b3 = false ∨ (b3 = true ∧ 0 ≤ n ∧ n < 37 ∧ M ≤ 10000000000 ∧ sumK n.toNat 36 = 36 * M ∧ (n = 1 → M = 1) ∧
      (∀ w, Calls Try.prog 23 #[.int .i64 (36 - n)] w fun e w' => e = .returned (.tuple #[.int .i64 (M : Nat), .bool true]) ∧ Ext w w'))) := by
  cases hr : inR n 0 36 with
  | false => exact ⟨0, false, fun w => CountClasses_bad n hr w, fun w => sCountClasses_bad n hr w, .inl rfl⟩
  | true =>
    obtain ⟨n', rfl⟩ : ∃ n' : Nat, n = n' := ⟨n.toNat, by unfold inR at hr; simp at hr; omega⟩
    have pn : n' < 37 := by unfold inR at hr; simp at hr; omega
    obtain ⟨k1, k2, k3⟩ := sum_facts n' pn
    have hb := sumK_le n' 36 pn (by omega)
    refine ⟨sumK n' 36 / 36, true, fun w => CountClasses_ok n' pn w, fun w => sCountClasses_ok n' pn w, .inr ⟨rfl, by omega, by omega, by omega, k1, fun h => by rw [k3 (by omega)], fun w => ?_⟩⟩
    have := CountClasses_ok (36 - n') (by omega) w
    rw [k2, show ((36 - n' : Nat) : Int) = 36 - (n' : Int) by omega] at this
    exact this
end Go.Proofs.Ytpopipacegkkbaa
