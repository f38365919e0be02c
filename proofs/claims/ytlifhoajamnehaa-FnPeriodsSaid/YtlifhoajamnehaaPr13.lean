/- PlcM Plc Plc2 Plc3: contracts of functions, and lemmas, for this seat. Conditions: as each states. -/
import Derived.Test.YtlifhoajamnehaaPr12
import Derived.Test.YtlifhoajamnehaaPr03
import Derived.Test.YtlifhoajamnehaaPr06
import Derived.Test.YtlifhoajamnehaaPr04
import Derived.Test.YtlifhoajamnehaaPr05
import Derived.Test.YtlifhoajamnehaaPr07
set_option linter.unusedVariables false
set_option linter.unusedSimpArgs false
set_option maxRecDepth 100000
set_option maxHeartbeats 1000000
namespace Go.Proofs.Ytlifhoajamnehaa
/-! the first of all shifts -/
def key6 (p0 p1 p2 p3 p4 p5 : Nat) : Nat := ((((p0 * 64 + p1) * 64 + p2) * 64 + p3) * 64 + p4) * 64 + p5
theorem key6_inj {p0 p1 p2 p3 p4 p5 q0 q1 q2 q3 q4 q5 : Nat} (a1 : p1 < 64) (a2 : p2 < 64) (a3 : p3 < 64) (a4 : p4 < 64) (a5 : p5 < 64) (b1 : q1 < 64) (b2 : q2 < 64) (b3 : q3 < 64) (b4 : q4 < 64) (b5 : q5 < 64)
    (h : key6 p0 p1 p2 p3 p4 p5 = key6 q0 q1 q2 q3 q4 q5) : p0 = q0 ∧ p1 = q1 ∧ p2 = q2 ∧ p3 = q3 ∧ p4 = q4 ∧ p5 = q5 := by
  unfold key6 at h
  have h5 : p5 = q5 := by omega
  have h4 : p4 = q4 := by omega
  have h3 : p3 = q3 := by omega
  have h2 : p2 = q2 := by omega
  have h1 : p1 = q1 := by omega
  exact ⟨by omega, h1, h2, h3, h4, h5⟩
def keyN (n : Nat) : Nat := key6 (rowN n 0) (rowN n 1) (rowN n 2) (rowN n 3) (rowN n 4) (rowN n 5)
theorem keyN_inj {a b : Nat} (ha : a < 68719476736) (hb : b < 68719476736) (h : keyN a = keyN b) : a = b := by
  obtain ⟨h0, h1, h2, h3, h4, h5⟩ := key6_inj (rowN_lt a 1) (rowN_lt a 2) (rowN_lt a 3) (rowN_lt a 4) (rowN_lt a 5) (rowN_lt b 1) (rowN_lt b 2) (rowN_lt b 3) (rowN_lt b 4) (rowN_lt b 5) h
  refine eq_of_rows ha hb fun y hy => ?_
  match y, hy with
  | 0, _ => exact h0
  | 1, _ => exact h1
  | 2, _ => exact h2
  | 3, _ => exact h3
  | 4, _ => exact h4
  | 5, _ => exact h5
/-- what is told by the first row that differs -/
theorem keyN_lt {a b y : Nat} (hy : y < 6) (he : ∀ z, z < y → rowN a z = rowN b z) (h : rowN a y < rowN b y) : keyN a < keyN b := by
  have a0 := rowN_lt a 0; have a1 := rowN_lt a 1; have a2 := rowN_lt a 2; have a3 := rowN_lt a 3; have a4 := rowN_lt a 4; have a5 := rowN_lt a 5
  unfold keyN key6
  match y, hy with
  | 0, _ => omega
  | 1, _ => have := he 0 (by omega); omega
  | 2, _ => have := he 0 (by omega); have := he 1 (by omega); omega
  | 3, _ => have := he 0 (by omega); have := he 1 (by omega); have := he 2 (by omega); omega
  | 4, _ => have := he 0 (by omega); have := he 1 (by omega); have := he 2 (by omega); have := he 3 (by omega); omega
  | 5, _ => have := he 0 (by omega); have := he 1 (by omega); have := he 2 (by omega); have := he 3 (by omega); have := he 4 (by omega); omega
theorem keyN_eq {a b : Nat} (he : ∀ z, z < 6 → rowN a z = rowN b z) : keyN a = keyN b := by
  unfold keyN
  rw [he 0 (by omega), he 1 (by omega), he 2 (by omega), he 3 (by omega), he 4 (by omega), he 5 (by omega)]
/-- the first of some sets -/
def lsN (f : Nat → Nat) : Nat → Nat
  | 0 => f 0
  | k + 1 => if keyN (f (k + 1)) < keyN (lsN f k) then f (k + 1) else lsN f k
theorem lsN_mem (f : Nat → Nat) : ∀ k, ∃ i, i ≤ k ∧ lsN f k = f i
  | 0 => ⟨0, Nat.le_refl _, rfl⟩
  | k + 1 => by
    rw [lsN]
    split
    · exact ⟨k + 1, Nat.le_refl _, rfl⟩
    · obtain ⟨i, h1, h2⟩ := lsN_mem f k
      exact ⟨i, by omega, h2⟩
theorem lsN_le (f : Nat → Nat) : ∀ k i, i ≤ k → keyN (lsN f k) ≤ keyN (f i)
  | 0, i, h => by obtain rfl : i = 0 := by omega
                  exact Nat.le_refl _
  | k + 1, i, h => by
    rw [lsN]
    split
    · rename_i h1
      rcases Nat.lt_or_ge i (k + 1) with h2 | h2
      · have := lsN_le f k i (by omega); omega
      · obtain rfl : i = k + 1 := by omega
        exact Nat.le_refl _
    · rename_i h1
      rcases Nat.lt_or_ge i (k + 1) with h2 | h2
      · exact lsN_le f k i (by omega)
      · obtain rfl : i = k + 1 := by omega
        omega
def fpN (n : Nat) : Nat := lsN (fun k => sh n (k % 6) (k / 6)) 35
def swp (k : Nat) : Nat := 6 * (k % 6) + k / 6
theorem swp_lt (k : Nat) (hk : k < 36) : swp k < 36 := by unfold swp; omega
theorem tsh_swp (n k : Nat) (hk : k < 36) : tsh n (swp k) = sh n (k % 6) (k / 6) := by
  unfold tsh swp
  rw [show (6 * (k % 6) + k / 6) / 6 = k % 6 by omega, show (6 * (k % 6) + k / 6) % 6 = k / 6 by omega]
theorem fpN_lt {n : Nat} : fpN n < 68719476736 := by
  obtain ⟨i, _, h⟩ := lsN_mem (fun k => sh n (k % 6) (k / 6)) 35
  unfold fpN
  rw [h]
  exact sh_lt _ _ _
theorem fpN_mem (n : Nat) : ∃ i, i < 36 ∧ fpN n = tsh n i := by
  obtain ⟨i, h1, h2⟩ := lsN_mem (fun k => sh n (k % 6) (k / 6)) 35
  exact ⟨swp i, swp_lt i (by omega), by rw [tsh_swp n i (by omega)]; exact h2⟩
theorem fpN_le (n i : Nat) (hi : i < 36) : keyN (fpN n) ≤ keyN (tsh n i) := by
  have h := lsN_le (fun k => sh n (k % 6) (k / 6)) 35 (swp i) (by have := swp_lt i hi; omega)
  have e : swp (swp i) = i := by unfold swp; omega
  have h2 : sh n (swp i % 6) (swp i / 6) = tsh n i := by rw [← tsh_swp n (swp i) (swp_lt i hi), e]
  have h3 : keyN (fpN n) ≤ keyN (sh n (swp i % 6) (swp i / 6)) := h
  rw [h2] at h3
  exact h3
theorem fpN_iff {a b : Nat} (ha : a < 68719476736) (hb : b < 68719476736) : fpN a = fpN b ↔ ∃ k, k < 36 ∧ tsh a k = b := by
  constructor
  · intro h
    obtain ⟨i, hi, e1⟩ := fpN_mem a
    obtain ⟨j, hj, e2⟩ := fpN_mem b
    refine ⟨padd i (pneg j), padd_lt _ _, ?_⟩
    rw [← tsh_tsh a i _ hi (pneg_lt j), ← e1, h, e2, tsh_back hb j hj]
  · rintro ⟨k, hk, rfl⟩
    obtain ⟨i, hi, e1⟩ := fpN_mem a
    obtain ⟨j, hj, e2⟩ := fpN_mem (tsh a k)
    have h1 : keyN (fpN a) ≤ keyN (fpN (tsh a k)) := by
      rw [e2, tsh_tsh a k j hk hj]
      exact fpN_le a _ (padd_lt _ _)
    have h2 : keyN (fpN (tsh a k)) ≤ keyN (fpN a) := by
      have h3 := fpN_le (tsh a k) (padd (pneg k) i) (padd_lt _ _)
      rw [← tsh_tsh _ _ i (pneg_lt k) hi, tsh_back ha k hk, ← e1] at h3
      exact h3
    exact keyN_inj fpN_lt fpN_lt (Nat.le_antisymm h1 h2)
end Go.Proofs.Ytlifhoajamnehaa
set_option linter.unusedVariables false
set_option linter.unusedSimpArgs false
set_option maxRecDepth 100000
set_option maxHeartbeats 1000000
namespace Go.Proofs.Ytlifhoajamnehaa
open Go Go.RowKit Instr
theorem isNaN_n (a : Nat) (w : World) : Calls Try.prog 171 #[.int .u64 (a : Int)] w fun e w' => e = .returned (.bool false) ∧ w = w' := by
  go_enter Try.func171, Try.ntmps171
  go_wp2
  go_returns
  exact ⟨by simp, rfl⟩
def sgn (a b : Nat) : Int := if a < b then -1 else if b < a then 1 else 0
theorem compareC_n (a b : Nat) (w : World) : Calls Try.prog 164 #[.int .u64 (a : Int), .int .u64 (b : Int)] w fun e w' => e = .returned (.int .i64 (sgn a b)) ∧ w = w' := by
  unfold sgn
  by_cases h1 : a < b
  · rw [if_pos h1]
    have hd : decide ((a : Int) < b) = true := by simp; omega
    go_enter Try.func164, Try.ntmps164
    go_wp2_with (go_at_call 171; refine (isNaN_n _ _).mono ?_; rintro e w' ⟨rfl, rfl⟩)
    go_returns
    exact ⟨rfl, rfl⟩
  · rw [if_neg h1]
    have hd : decide ((a : Int) < b) = false := by simp; omega
    by_cases h2 : b < a
    · rw [if_pos h2]
      have hd2 : decide ((b : Int) < a) = true := by simp; omega
      go_enter Try.func164, Try.ntmps164
      go_wp2_with (go_at_call 171; refine (isNaN_n _ _).mono ?_; rintro e w' ⟨rfl, rfl⟩)
      go_returns
      exact ⟨rfl, rfl⟩
    · rw [if_neg h2]
      have hd2 : decide ((b : Int) < a) = false := by simp; omega
      go_enter Try.func164, Try.ntmps164
      go_wp2_with (go_at_call 171; refine (isNaN_n _ _).mono ?_; rintro e w' ⟨rfl, rfl⟩)
      go_returns
      exact ⟨rfl, rfl⟩
theorem row_get6 (n y : Nat) (hn : n < 68719476736) (c : Int) (hc : c = ((2 ^ (y * 6) : Nat) : Int)) : bits .and .u64 ((n : Int) / c) 63 = ((rowN n y : Nat) : Int) := by
  subst hc
  have h := u64_and_nat (n / 2 ^ (y * 6)) 63 (Nat.lt_of_le_of_lt (Nat.div_le_self _ _) (by omega)) (by omega)
  rw [show ((n : Int) / ((2 ^ (y * 6) : Nat) : Int)) = ((n / 2 ^ (y * 6) : Nat) : Int) from rfl, show (63 : Int) = ((63 : Nat) : Int) from rfl, h, nat_mask6]
  unfold rowN
  rw [Nat.mul_comm y 6]
theorem compareSets_n (a b : Nat) (ha : a < 68719476736) (hb : b < 68719476736) (w : World) : Calls Try.prog 144 #[.int .u64 (a : Int), .int .u64 (b : Int)] w fun e w' => ∃ c : Int, e = .returned (.int .i64 c) ∧ Ext w w' ∧ (c < 0 ↔ keyN a < keyN b) := by
  skip
  go_enter Try.func144, Try.ntmps144
  go_wp2
  go_loopw [5, 6, 7] (fun _ _ i wr => ∃ y : Nat, y ≤ 6 ∧ i = .int .i64 y ∧ Ext w wr ∧ ∀ z, z < y → rowN a z = rowN b z) (fun _ _ i _ => 6 - (intOf i).toNat)
  case atStart => exact ⟨0, Nat.zero_le _, rfl, Ext.refl _, fun z hz => absurd hz (Nat.not_lt_zero _)⟩
  case round =>
    obtain ⟨y, hy, rfl, hx, hz⟩ := hrel
    obtain ⟨wo, rfl⟩ : ∃ wo : World, wo = wr := ⟨_, rfl⟩
    have HZ := Lib.hid hz
    clear hz
    by_cases hlt : y < 6
    · have hd : decide ((y : Int) < 6) = true := decide_eq_true (by omega)
      have hp2 : ((2 : Int) ^ (y * 6)) = ((2 ^ (y * 6) : Nat) : Int) := by rw [Int.natCast_pow]; rfl
      obtain ⟨p, hp⟩ : ∃ p, p = rowN a y := ⟨_, rfl⟩
      obtain ⟨q, hq⟩ : ∃ q, q = rowN b y := ⟨_, rfl⟩
      have e1 := row_get6 a y ha _ hp2
      have e2 := row_get6 b y hb _ hp2
      rw [← hp] at e1
      rw [← hq] at e2
      obtain ⟨S, hS⟩ : ∃ S, S = sgn p q := ⟨_, rfl⟩
      have H1 := Lib.hid (fun w => compareC_n p q w)
      rw [← hS] at H1
      have HPQ := Lib.hid (And.intro hp (And.intro hq hS))
      have hb1 : -1 ≤ S ∧ S ≤ 1 := by rw [hS]; unfold sgn; split <;> (try split) <;> omega
      clear hp hq hS hp2
      by_cases h0 : S = 0
      · subst h0
        go_wp2
        refine wp_calm0 (by kernel_rfl) (by kernel_rfl) ?_; intro hgr; (refine walkQ_step (fun K hK => ?_); go_simp; (try (go_ints; try go_simp)); first | (refine hK _ ?_; clear hK K) | (apply Exists.intro; refine ⟨fun _ => ?_, hK _ ?_⟩; ((go_at_call 164; with_reducible exact calm_same (H1.out _))); clear hK K) | (simp only [↓IntWalk.iteOmega]; (try go_simp); (try (go_ints; try go_simp)); first | (refine hK _ ?_; clear hK K) | (apply Exists.intro; refine ⟨fun _ => ?_, hK _ ?_⟩; ((go_at_call 164; with_reducible exact calm_same (H1.out _))); clear hK K))); (refine walkQ_step (fun K hK => ?_); go_simp; (try (go_ints; try go_simp)); first | (refine hK _ ?_; clear hK K) | (apply Exists.intro; refine ⟨fun _ => ?_, hK _ ?_⟩; ((go_at_call 164; with_reducible exact calm_same (H1.out _))); clear hK K) | (simp only [↓IntWalk.iteOmega]; (try go_simp); (try (go_ints; try go_simp)); first | (refine hK _ ?_; clear hK K) | (apply Exists.intro; refine ⟨fun _ => ?_, hK _ ?_⟩; ((go_at_call 164; with_reducible exact calm_same (H1.out _))); clear hK K))); (refine walkQ_step (fun K hK => ?_); go_simp; (try (go_ints; try go_simp)); first | (refine hK _ ?_; clear hK K) | (apply Exists.intro; refine ⟨fun _ => ?_, hK _ ?_⟩; ((go_at_call 164; with_reducible exact calm_same (H1.out _))); clear hK K) | (simp only [↓IntWalk.iteOmega]; (try go_simp); (try (go_ints; try go_simp)); first | (refine hK _ ?_; clear hK K) | (apply Exists.intro; refine ⟨fun _ => ?_, hK _ ?_⟩; ((go_at_call 164; with_reducible exact calm_same (H1.out _))); clear hK K))); (refine walkQ_step (fun K hK => ?_); go_simp; (try (go_ints; try go_simp)); first | (refine hK _ ?_; clear hK K) | (apply Exists.intro; refine ⟨fun _ => ?_, hK _ ?_⟩; ((go_at_call 164; with_reducible exact calm_same (H1.out _))); clear hK K) | (simp only [↓IntWalk.iteOmega]; (try go_simp); (try (go_ints; try go_simp)); first | (refine hK _ ?_; clear hK K) | (apply Exists.intro; refine ⟨fun _ => ?_, hK _ ?_⟩; ((go_at_call 164; with_reducible exact calm_same (H1.out _))); clear hK K))); (refine walkQ_step (fun K hK => ?_); go_simp; (try (go_ints; try go_simp)); first | (refine hK _ ?_; clear hK K) | (apply Exists.intro; refine ⟨fun _ => ?_, hK _ ?_⟩; ((go_at_call 164; with_reducible exact calm_same (H1.out _))); clear hK K) | (simp only [↓IntWalk.iteOmega]; (try go_simp); (try (go_ints; try go_simp)); first | (refine hK _ ?_; clear hK K) | (apply Exists.intro; refine ⟨fun _ => ?_, hK _ ?_⟩; ((go_at_call 164; with_reducible exact calm_same (H1.out _))); clear hK K))); (refine walkQ_step (fun K hK => ?_); go_simp; (try (go_ints; try go_simp)); first | (refine hK _ ?_; clear hK K) | (apply Exists.intro; refine ⟨fun _ => ?_, hK _ ?_⟩; ((go_at_call 164; with_reducible exact calm_same (H1.out _))); clear hK K) | (simp only [↓IntWalk.iteOmega]; (try go_simp); (try (go_ints; try go_simp)); first | (refine hK _ ?_; clear hK K) | (apply Exists.intro; refine ⟨fun _ => ?_, hK _ ?_⟩; ((go_at_call 164; with_reducible exact calm_same (H1.out _))); clear hK K))); (refine walkQ_step (fun K hK => ?_); go_simp; (try (go_ints; try go_simp)); first | (refine hK _ ?_; clear hK K) | (apply Exists.intro; refine ⟨fun _ => ?_, hK _ ?_⟩; ((go_at_call 164; with_reducible exact calm_same (H1.out _))); clear hK K) | (simp only [↓IntWalk.iteOmega]; (try go_simp); (try (go_ints; try go_simp)); first | (refine hK _ ?_; clear hK K) | (apply Exists.intro; refine ⟨fun _ => ?_, hK _ ?_⟩; ((go_at_call 164; with_reducible exact calm_same (H1.out _))); clear hK K))); (refine walkQ_step (fun K hK => ?_); go_simp; (try (go_ints; try go_simp)); first | (refine hK _ ?_; clear hK K) | (apply Exists.intro; refine ⟨fun _ => ?_, hK _ ?_⟩; ((go_at_call 164; with_reducible exact calm_same (H1.out _))); clear hK K) | (simp only [↓IntWalk.iteOmega]; (try go_simp); (try (go_ints; try go_simp)); first | (refine hK _ ?_; clear hK K) | (apply Exists.intro; refine ⟨fun _ => ?_, hK _ ?_⟩; ((go_at_call 164; with_reducible exact calm_same (H1.out _))); clear hK K))); (refine walkQ_step (fun K hK => ?_); go_simp; (try (go_ints; try go_simp)); first | (refine hK _ ?_; clear hK K) | (apply Exists.intro; refine ⟨fun _ => ?_, hK _ ?_⟩; ((go_at_call 164; with_reducible exact calm_same (H1.out _))); clear hK K) | (simp only [↓IntWalk.iteOmega]; (try go_simp); (try (go_ints; try go_simp)); first | (refine hK _ ?_; clear hK K) | (apply Exists.intro; refine ⟨fun _ => ?_, hK _ ?_⟩; ((go_at_call 164; with_reducible exact calm_same (H1.out _))); clear hK K))); (refine walkQ_step (fun K hK => ?_); go_simp; (try (go_ints; try go_simp)); first | (refine hK _ ?_; clear hK K) | (apply Exists.intro; refine ⟨fun _ => ?_, hK _ ?_⟩; ((go_at_call 164; with_reducible exact calm_same (H1.out _))); clear hK K) | (simp only [↓IntWalk.iteOmega]; (try go_simp); (try (go_ints; try go_simp)); first | (refine hK _ ?_; clear hK K) | (apply Exists.intro; refine ⟨fun _ => ?_, hK _ ?_⟩; ((go_at_call 164; with_reducible exact calm_same (H1.out _))); clear hK K))); (refine walkQ_step (fun K hK => ?_); go_simp; (try (go_ints; try go_simp)); first | (refine hK _ ?_; clear hK K) | (apply Exists.intro; refine ⟨fun _ => ?_, hK _ ?_⟩; ((go_at_call 164; with_reducible exact calm_same (H1.out _))); clear hK K) | (simp only [↓IntWalk.iteOmega]; (try go_simp); (try (go_ints; try go_simp)); first | (refine hK _ ?_; clear hK K) | (apply Exists.intro; refine ⟨fun _ => ?_, hK _ ?_⟩; ((go_at_call 164; with_reducible exact calm_same (H1.out _))); clear hK K))); (refine walkQ_step (fun K hK => ?_); go_simp; (try (go_ints; try go_simp)); first | (refine hK _ ?_; clear hK K) | (apply Exists.intro; refine ⟨fun _ => ?_, hK _ ?_⟩; ((go_at_call 164; with_reducible exact calm_same (H1.out _))); clear hK K) | (simp only [↓IntWalk.iteOmega]; (try go_simp); (try (go_ints; try go_simp)); first | (refine hK _ ?_; clear hK K) | (apply Exists.intro; refine ⟨fun _ => ?_, hK _ ?_⟩; ((go_at_call 164; with_reducible exact calm_same (H1.out _))); clear hK K))); refine walkQ_nil ?_; clear hgr; intro w1 hE; have hc2 := hE.cells; have hf2 := hE.frees; have hz2 := hE.size
        replace hE : Ext wo w1 := ((Ext.refl wo).drew).trans hE
        go_wp2
        refine ⟨⟨y + 1, by omega, by go_num, (by (repeat' (first | (with_reducible exact Ext.refl _) | (with_reducible assumption) | (with_reducible refine Ext.alloc ?_ _) | (with_reducible refine Ext.drew ?_) | (with_reducible refine Ext.drewN ?_ _) | (with_reducible refine Ext.setCell ?_ ?_ _) | (with_reducible refine Ext.trans ?_ (by assumption)))) <;> (first | (with_reducible assumption) | omega | (simp; done) | (simp; omega))), fun z hz => ?_⟩, by simp [intOf]; omega⟩
        rcases Nat.lt_or_ge z y with h1 | h1
        · exact HZ.out z h1
        · obtain rfl : z = y := by omega
          obtain ⟨hp, hq, hS⟩ := HPQ.out
          rw [← hp, ← hq]
          unfold sgn at hS
          split at hS
          · omega
          · split at hS <;> omega
      · go_wp2
        refine wp_calm0 (by kernel_rfl) (by kernel_rfl) ?_; intro hgr; (refine walkQ_step (fun K hK => ?_); go_simp; (try (go_ints; try go_simp)); first | (refine hK _ ?_; clear hK K) | (apply Exists.intro; refine ⟨fun _ => ?_, hK _ ?_⟩; ((go_at_call 164; with_reducible exact calm_same (H1.out _))); clear hK K) | (simp only [↓IntWalk.iteOmega]; (try go_simp); (try (go_ints; try go_simp)); first | (refine hK _ ?_; clear hK K) | (apply Exists.intro; refine ⟨fun _ => ?_, hK _ ?_⟩; ((go_at_call 164; with_reducible exact calm_same (H1.out _))); clear hK K))); (refine walkQ_step (fun K hK => ?_); go_simp; (try (go_ints; try go_simp)); first | (refine hK _ ?_; clear hK K) | (apply Exists.intro; refine ⟨fun _ => ?_, hK _ ?_⟩; ((go_at_call 164; with_reducible exact calm_same (H1.out _))); clear hK K) | (simp only [↓IntWalk.iteOmega]; (try go_simp); (try (go_ints; try go_simp)); first | (refine hK _ ?_; clear hK K) | (apply Exists.intro; refine ⟨fun _ => ?_, hK _ ?_⟩; ((go_at_call 164; with_reducible exact calm_same (H1.out _))); clear hK K))); (refine walkQ_step (fun K hK => ?_); go_simp; (try (go_ints; try go_simp)); first | (refine hK _ ?_; clear hK K) | (apply Exists.intro; refine ⟨fun _ => ?_, hK _ ?_⟩; ((go_at_call 164; with_reducible exact calm_same (H1.out _))); clear hK K) | (simp only [↓IntWalk.iteOmega]; (try go_simp); (try (go_ints; try go_simp)); first | (refine hK _ ?_; clear hK K) | (apply Exists.intro; refine ⟨fun _ => ?_, hK _ ?_⟩; ((go_at_call 164; with_reducible exact calm_same (H1.out _))); clear hK K))); (refine walkQ_step (fun K hK => ?_); go_simp; (try (go_ints; try go_simp)); first | (refine hK _ ?_; clear hK K) | (apply Exists.intro; refine ⟨fun _ => ?_, hK _ ?_⟩; ((go_at_call 164; with_reducible exact calm_same (H1.out _))); clear hK K) | (simp only [↓IntWalk.iteOmega]; (try go_simp); (try (go_ints; try go_simp)); first | (refine hK _ ?_; clear hK K) | (apply Exists.intro; refine ⟨fun _ => ?_, hK _ ?_⟩; ((go_at_call 164; with_reducible exact calm_same (H1.out _))); clear hK K))); (refine walkQ_step (fun K hK => ?_); go_simp; (try (go_ints; try go_simp)); first | (refine hK _ ?_; clear hK K) | (apply Exists.intro; refine ⟨fun _ => ?_, hK _ ?_⟩; ((go_at_call 164; with_reducible exact calm_same (H1.out _))); clear hK K) | (simp only [↓IntWalk.iteOmega]; (try go_simp); (try (go_ints; try go_simp)); first | (refine hK _ ?_; clear hK K) | (apply Exists.intro; refine ⟨fun _ => ?_, hK _ ?_⟩; ((go_at_call 164; with_reducible exact calm_same (H1.out _))); clear hK K))); (refine walkQ_step (fun K hK => ?_); go_simp; (try (go_ints; try go_simp)); first | (refine hK _ ?_; clear hK K) | (apply Exists.intro; refine ⟨fun _ => ?_, hK _ ?_⟩; ((go_at_call 164; with_reducible exact calm_same (H1.out _))); clear hK K) | (simp only [↓IntWalk.iteOmega]; (try go_simp); (try (go_ints; try go_simp)); first | (refine hK _ ?_; clear hK K) | (apply Exists.intro; refine ⟨fun _ => ?_, hK _ ?_⟩; ((go_at_call 164; with_reducible exact calm_same (H1.out _))); clear hK K))); (refine walkQ_step (fun K hK => ?_); go_simp; (try (go_ints; try go_simp)); first | (refine hK _ ?_; clear hK K) | (apply Exists.intro; refine ⟨fun _ => ?_, hK _ ?_⟩; ((go_at_call 164; with_reducible exact calm_same (H1.out _))); clear hK K) | (simp only [↓IntWalk.iteOmega]; (try go_simp); (try (go_ints; try go_simp)); first | (refine hK _ ?_; clear hK K) | (apply Exists.intro; refine ⟨fun _ => ?_, hK _ ?_⟩; ((go_at_call 164; with_reducible exact calm_same (H1.out _))); clear hK K))); (refine walkQ_step (fun K hK => ?_); go_simp; (try (go_ints; try go_simp)); first | (refine hK _ ?_; clear hK K) | (apply Exists.intro; refine ⟨fun _ => ?_, hK _ ?_⟩; ((go_at_call 164; with_reducible exact calm_same (H1.out _))); clear hK K) | (simp only [↓IntWalk.iteOmega]; (try go_simp); (try (go_ints; try go_simp)); first | (refine hK _ ?_; clear hK K) | (apply Exists.intro; refine ⟨fun _ => ?_, hK _ ?_⟩; ((go_at_call 164; with_reducible exact calm_same (H1.out _))); clear hK K))); (refine walkQ_step (fun K hK => ?_); go_simp; (try (go_ints; try go_simp)); first | (refine hK _ ?_; clear hK K) | (apply Exists.intro; refine ⟨fun _ => ?_, hK _ ?_⟩; ((go_at_call 164; with_reducible exact calm_same (H1.out _))); clear hK K) | (simp only [↓IntWalk.iteOmega]; (try go_simp); (try (go_ints; try go_simp)); first | (refine hK _ ?_; clear hK K) | (apply Exists.intro; refine ⟨fun _ => ?_, hK _ ?_⟩; ((go_at_call 164; with_reducible exact calm_same (H1.out _))); clear hK K))); (refine walkQ_step (fun K hK => ?_); go_simp; (try (go_ints; try go_simp)); first | (refine hK _ ?_; clear hK K) | (apply Exists.intro; refine ⟨fun _ => ?_, hK _ ?_⟩; ((go_at_call 164; with_reducible exact calm_same (H1.out _))); clear hK K) | (simp only [↓IntWalk.iteOmega]; (try go_simp); (try (go_ints; try go_simp)); first | (refine hK _ ?_; clear hK K) | (apply Exists.intro; refine ⟨fun _ => ?_, hK _ ?_⟩; ((go_at_call 164; with_reducible exact calm_same (H1.out _))); clear hK K))); (refine walkQ_step (fun K hK => ?_); go_simp; (try (go_ints; try go_simp)); first | (refine hK _ ?_; clear hK K) | (apply Exists.intro; refine ⟨fun _ => ?_, hK _ ?_⟩; ((go_at_call 164; with_reducible exact calm_same (H1.out _))); clear hK K) | (simp only [↓IntWalk.iteOmega]; (try go_simp); (try (go_ints; try go_simp)); first | (refine hK _ ?_; clear hK K) | (apply Exists.intro; refine ⟨fun _ => ?_, hK _ ?_⟩; ((go_at_call 164; with_reducible exact calm_same (H1.out _))); clear hK K))); (refine walkQ_step (fun K hK => ?_); go_simp; (try (go_ints; try go_simp)); first | (refine hK _ ?_; clear hK K) | (apply Exists.intro; refine ⟨fun _ => ?_, hK _ ?_⟩; ((go_at_call 164; with_reducible exact calm_same (H1.out _))); clear hK K) | (simp only [↓IntWalk.iteOmega]; (try go_simp); (try (go_ints; try go_simp)); first | (refine hK _ ?_; clear hK K) | (apply Exists.intro; refine ⟨fun _ => ?_, hK _ ?_⟩; ((go_at_call 164; with_reducible exact calm_same (H1.out _))); clear hK K))); refine walkQ_nil ?_; clear hgr; intro w1 hE; have hc2 := hE.cells; have hf2 := hE.frees; have hz2 := hE.size
        replace hE : Ext wo w1 := ((Ext.refl wo).drew).trans hE
        go_wp2
        go_returns
        refine ⟨S, rfl, (by (repeat' (first | (with_reducible exact Ext.refl _) | (with_reducible assumption) | (with_reducible refine Ext.alloc ?_ _) | (with_reducible refine Ext.drew ?_) | (with_reducible refine Ext.drewN ?_ _) | (with_reducible refine Ext.setCell ?_ ?_ _) | (with_reducible refine Ext.trans ?_ (by assumption)))) <;> (first | (with_reducible assumption) | omega | (simp; done) | (simp; omega))), ?_⟩
        obtain ⟨hp, hq, hS⟩ := HPQ.out
        unfold sgn at hS
        split at hS
        · rename_i h
          exact ⟨fun _ => keyN_lt hlt HZ.out (by rw [← hp, ← hq]; exact h), fun _ => by omega⟩
        · split at hS
          · rename_i h
            have := keyN_lt hlt (fun z hz => (HZ.out z hz).symm) (by rw [← hp, ← hq]; exact h)
            exact ⟨fun _ => by omega, fun _ => by omega⟩
          · omega
    · obtain rfl : y = 6 := by omega
      go_wp2
      go_returns
      exact ⟨0, rfl, hx, by rw [keyN_eq HZ.out]; omega⟩
end Go.Proofs.Ytlifhoajamnehaa
set_option linter.unusedVariables false
set_option linter.unusedSimpArgs false
set_option maxRecDepth 100000
set_option maxHeartbeats 1000000
namespace Go.Proofs.Ytlifhoajamnehaa
open Go Go.RowKit Instr
theorem lsN_lt {f : Nat → Nat} (h : ∀ k, f k < 68719476736) (k : Nat) : lsN f k < 68719476736 := by
  obtain ⟨i, _, e⟩ := lsN_mem f k
  rw [e]; exact h i
theorem least_pressed (n : Nat) (hn : n < 68719476736) (w : World) : Calls Try.prog 96 #[.int .i64 36, .func (.func 97) #[.int .u64 (n : Int)] #[]] w fun e w' => (∃ j : Int, e = .returned (.tuple #[.int .u64 (lsN (fun k => sh n (k % 6) (k / 6)) 35 : Nat), .int .i64 j])) ∧ Ext w w' := by
  have H0 := Lib.hid (fun w => pressed_any n 0 hn (by decide) w)
  skip
  go_enter Try.func96, Try.ntmps96
  go_wp2_with (go_at_call 97; refine (H0.out _).mono ?_; rintro e w1 ⟨rfl, hE⟩)
  go_loopw [6, 7, 8, 9] (fun b a i _ wr => ∃ m k : Nat, m = k + 1 ∧ k ≤ 35 ∧ i = .int .i64 (m : Nat) ∧ b = .int .u64 (lsN (fun k => sh n (k % 6) (k / 6)) k : Nat) ∧ (∃ j : Int, a = .int .i64 j) ∧ Ext w wr) (fun _ _ i _ _ => 36 - (intOf i).toNat)
  case atStart => exact ⟨1, 0, rfl, by omega, rfl, rfl, ⟨0, rfl⟩, (by (repeat' (first | (with_reducible exact Ext.refl _) | (with_reducible assumption) | (with_reducible refine Ext.alloc ?_ _) | (with_reducible refine Ext.drew ?_) | (with_reducible refine Ext.drewN ?_ _) | (with_reducible refine Ext.setCell ?_ ?_ _) | (with_reducible refine Ext.trans ?_ (by assumption)))) <;> (first | (with_reducible assumption) | omega | (simp; done) | (simp; omega)))⟩
  case round =>
    obtain ⟨m, k, hm, hk, rfl, rfl, ⟨j, rfl⟩, hx⟩ := hrel
    obtain ⟨wo, rfl⟩ : ∃ wo : World, wo = wr := ⟨_, rfl⟩
    have HM := Lib.hid hm
    by_cases hlt : m < 36
    · have H1 := Lib.hid (fun w => pressed_any n m hn hlt w)
      obtain ⟨z, hz⟩ : ∃ z, z = sh n (m % 6) (m / 6) := ⟨_, rfl⟩
      rw [← hz] at H1
      obtain ⟨L, hL⟩ : ∃ L, L = lsN (fun k => sh n (k % 6) (k / 6)) k := ⟨_, rfl⟩
      rw [← hL]
      have lz : z < 68719476736 := hz ▸ sh_lt _ _ _
      have lL : L < 68719476736 := hL ▸ lsN_lt (fun k => sh_lt _ _ _) k
      have HS := Lib.hid (show lsN (fun k => sh n (k % 6) (k / 6)) m = if keyN z < keyN L then z else L by rw [hm, lsN, ← hL, hz, hm])
      have HC := Lib.hid (fun w => compareSets_n z L lz lL w)
      clear hz hL hm
      go_wp2_with (first | (go_at_call 97; refine (H1.out _).mono ?_; rintro e w1 ⟨rfl, hE⟩) | (go_at_call 144; refine (HC.out _).mono ?_; rintro e w1 ⟨c, rfl, hE, hc⟩; have HCC := Lib.hid hc; clear hc))
      · refine ⟨⟨m + 1, m, rfl, by omega, by go_num, by rw [HS.out, if_pos (HCC.out.1 (by assumption))], ⟨_, rfl⟩, (by (repeat' (first | (with_reducible exact Ext.refl _) | (with_reducible assumption) | (with_reducible refine Ext.alloc ?_ _) | (with_reducible refine Ext.drew ?_) | (with_reducible refine Ext.drewN ?_ _) | (with_reducible refine Ext.setCell ?_ ?_ _) | (with_reducible refine Ext.trans ?_ (by assumption)))) <;> (first | (with_reducible assumption) | omega | (simp; done) | (simp; omega)))⟩, by simp [intOf]; omega⟩
      · refine ⟨⟨m + 1, m, rfl, by omega, by go_num, by rw [HS.out, if_neg (fun h => absurd (HCC.out.2 h) (by omega))], ⟨_, rfl⟩, (by (repeat' (first | (with_reducible exact Ext.refl _) | (with_reducible assumption) | (with_reducible refine Ext.alloc ?_ _) | (with_reducible refine Ext.drew ?_) | (with_reducible refine Ext.drewN ?_ _) | (with_reducible refine Ext.setCell ?_ ?_ _) | (with_reducible refine Ext.trans ?_ (by assumption)))) <;> (first | (with_reducible assumption) | omega | (simp; done) | (simp; omega)))⟩, by simp [intOf]; omega⟩
    · obtain rfl : k = 35 := by omega
      clear HM hm
      go_wp2
      go_returns
      exact ⟨⟨_, rfl⟩, hx⟩
end Go.Proofs.Ytlifhoajamnehaa
set_option linter.unusedVariables false
set_option linter.unusedSimpArgs false
set_option maxRecDepth 100000
set_option maxHeartbeats 1000000
namespace Go.Proofs.Ytlifhoajamnehaa
open Go Go.RowKit Instr
theorem FirstPlace_ok (n : Nat) (hn : n < 68719476736) (w : World) : Calls Try.prog 27 #[(.agg #[.int .i64 (rw n 0), .int .i64 (rw n 1), .int .i64 (rw n 2), .int .i64 (rw n 3), .int .i64 (rw n 4), .int .i64 (rw n 5)])] w fun e w' => e = .returned (.tuple #[(.agg #[.int .i64 (rw (fpN n) 0), .int .i64 (rw (fpN n) 1), .int .i64 (rw (fpN n) 2), .int .i64 (rw (fpN n) 3), .int .i64 (rw (fpN n) 4), .int .i64 (rw (fpN n) 5)]), .bool true]) ∧ Ext w w' := by
  have HL := Lib.hid (fun w => least_pressed n hn w)
  have hz : fpN n < 68719476736 := fpN_lt
  rw [show lsN (fun k => sh n (k % 6) (k / 6)) 35 = fpN n from rfl] at HL
  generalize fpN n = z at *
  skip
  go_enter Try.func27, Try.ntmps27
  go_wp2_with (first | (go_at_call 77; refine (setOf_n n hn _).mono ?_; rintro e w1 ⟨rfl, hE⟩; replace HR := Lib.hid ((show Arr _ (w.heap.size + 1) (fun _ => 0) by first | exact HR.out | exact Arr.new _ (fun _ => 0) _ (by first | rfl | (simp; done) | (simp; omega))).ext hE (by first | exact lR | (simp; done) | (simp; omega))); replace lR : w.heap.size + 1 < w1.heap.size := Nat.lt_of_lt_of_le (by first | exact lR | (simp; done) | (simp; omega)) hE.size; (try clear d0 d1 d2 d3 d4 d5 f0 f1 f2 f3 f4 f5); obtain ⟨⟨d0, d1, d2, d3, d4, d5⟩, f0, f1, f2, f3, f4, f5⟩ := HR.out.all; replace k0_0 : w1.cell? ⟨w.heap.size, 0, none⟩ = some (.int .i64 (rw n 0)) := (hE.cells _ _ (by first | exact l0 | (simp; done) | (simp; omega))).trans (by first | exact k0_0 | (go_simp; done)); replace k0_1 : w1.cell? ⟨w.heap.size, 1, none⟩ = some (.int .i64 (rw n 1)) := (hE.cells _ _ (by first | exact l0 | (simp; done) | (simp; omega))).trans (by first | exact k0_1 | (go_simp; done)); replace k0_2 : w1.cell? ⟨w.heap.size, 2, none⟩ = some (.int .i64 (rw n 2)) := (hE.cells _ _ (by first | exact l0 | (simp; done) | (simp; omega))).trans (by first | exact k0_2 | (go_simp; done)); replace k0_3 : w1.cell? ⟨w.heap.size, 3, none⟩ = some (.int .i64 (rw n 3)) := (hE.cells _ _ (by first | exact l0 | (simp; done) | (simp; omega))).trans (by first | exact k0_3 | (go_simp; done)); replace k0_4 : w1.cell? ⟨w.heap.size, 4, none⟩ = some (.int .i64 (rw n 4)) := (hE.cells _ _ (by first | exact l0 | (simp; done) | (simp; omega))).trans (by first | exact k0_4 | (go_simp; done)); replace k0_5 : w1.cell? ⟨w.heap.size, 5, none⟩ = some (.int .i64 (rw n 5)) := (hE.cells _ _ (by first | exact l0 | (simp; done) | (simp; omega))).trans (by first | exact k0_5 | (go_simp; done)); replace l0 : w.heap.size < w1.heap.size := Nat.lt_of_lt_of_le (by first | exact l0 | (simp; done) | (simp; omega)) hE.size) | (go_at_call 96; refine (HL.out _).mono ?_; rintro e w1 ⟨⟨j, rfl⟩, hE⟩; replace HR := Lib.hid (HR.out.ext hE lR); replace lR : w.heap.size + 1 < w1.heap.size := Nat.lt_of_lt_of_le lR hE.size) | (go_at_call 94; refine (sheet_n z hz _).mono ?_; rintro e w1 ⟨rfl, hE⟩; replace HR := Lib.hid (HR.out.ext hE lR); (clear d0 d1 d2 d3 d4 d5 f0 f1 f2 f3 f4 f5); obtain ⟨⟨d0, d1, d2, d3, d4, d5⟩, f0, f1, f2, f3, f4, f5⟩ := HR.out.all))
  exact bodyPost_ret (ret_cell_tmp rfl rfl rfl (load_sheet (HR.out.six (rw z)))) rfl ⟨rfl, (by (repeat' (first | (with_reducible exact Ext.refl _) | (with_reducible assumption) | (with_reducible refine Ext.alloc ?_ _) | (with_reducible refine Ext.drew ?_) | (with_reducible refine Ext.drewN ?_ _) | (with_reducible refine Ext.setCell ?_ ?_ _) | (with_reducible refine Ext.trans ?_ (by assumption)))) <;> (first | (with_reducible assumption) | omega | (simp; done) | (simp; omega)))⟩
end Go.Proofs.Ytlifhoajamnehaa
