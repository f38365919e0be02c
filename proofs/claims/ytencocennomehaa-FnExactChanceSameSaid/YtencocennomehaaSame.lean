/- Same: contracts of functions, and lemmas, for this seat. Conditions: as each states. -/
import Derived.Test.YtencocennomehaaPow
import Derived.Test.YtencocennomehaaOps
import Derived.Test.YtencocennomehaaEql
set_option linter.unusedVariables false
set_option maxRecDepth 100000
set_option maxHeartbeats 1000000
namespace Go.Proofs.Ytencocennomehaa
open Go Go.RowKit Instr
theorem rwz (j : Nat) : rw 0 j = 0 := by rw [rw_nat]; unfold rowN; rw [Nat.zero_div]; rfl
theorem eqSz {k : Nat} (hk : k < 68719476736) : eqS (rw k) (fun _ => 0) = decide (k = 0) := by
  rw [← eqS_rw hk (by omega : 0 < 68719476736)]
  unfold eqS
  simp only [rwz]
def sumN (f : Nat → Nat) : Nat → Nat
  | 0 => 0
  | j + 1 => sumN f j + f j
theorem sumN_le {f : Nat → Nat} {B : Nat} (h : ∀ j, f j ≤ B) : ∀ j, sumN f j ≤ j * B
  | 0 => by simp [sumN]
  | j + 1 => by
    have := sumN_le h j
    have := h j
    rw [sumN, Nat.succ_mul]
    omega
/-- in how many ways so many presses lead back from a set -/
def sw (n : Nat) : Nat → Nat → Nat
  | 0, p => if p = 0 then 1 else 0
  | k + 1, p => sumN (fun j => sw n k (p ^^^ sh n (j % 6) (j / 6))) 36
theorem sw_le (n : Nat) : ∀ k p, sw n k p ≤ 36 ^ k
  | 0, p => by rw [sw]; split <;> decide
  | k + 1, p => by
    rw [sw]
    refine Nat.le_trans (sumN_le (B := 36 ^ k) (fun j => sw_le n k _) 36) ?_
    rw [Nat.pow_succ, Nat.mul_comm]
    exact Nat.le_refl _
theorem sw_bd (n k p : Nat) (hk : k ≤ 3) : sw n k p ≤ 46656 :=
  Nat.le_trans (sw_le n k p) (Nat.le_trans (Nat.pow_le_pow_right (by omega) hk) (by decide))
theorem sameWays_n (n : Nat) (hn : n < 68719476736) : ∀ k : Nat, k ≤ 3 → ∀ p : Nat, p < 68719476736 → ∀ w, Calls Try.prog 111 #[.int .u64 (n : Int), .int .u64 (p : Int), .int .i64 (k : Int)] w fun e w' => e = .returned (.int .i64 (sw n k p : Nat)) ∧ Ext w w'
  | 0, _, p, hp, w => by
    by_cases h0 : p = 0
    · subst h0
      go_enter Try.func111, Try.ntmps111
      go_wp2
      go_returns
      exact ⟨rfl, (by (repeat' (first | (with_reducible exact Ext.refl _) | (with_reducible assumption) | (with_reducible refine Ext.alloc ?_ _) | (with_reducible refine Ext.drew ?_) | (with_reducible refine Ext.drewN ?_ _) | (with_reducible refine Ext.setCell ?_ ?_ _) | (with_reducible refine Ext.trans ?_ (by assumption)))) <;> (first | (with_reducible assumption) | omega | (simp; done) | (simp; omega)))⟩
    · rw [sw, if_neg h0]
      go_enter Try.func111, Try.ntmps111
      go_wp2
      go_returns
      exact ⟨rfl, (by (repeat' (first | (with_reducible exact Ext.refl _) | (with_reducible assumption) | (with_reducible refine Ext.alloc ?_ _) | (with_reducible refine Ext.drew ?_) | (with_reducible refine Ext.drewN ?_ _) | (with_reducible refine Ext.setCell ?_ ?_ _) | (with_reducible refine Ext.trans ?_ (by assumption)))) <;> (first | (with_reducible assumption) | omega | (simp; done) | (simp; omega)))⟩
  | k + 1, hk, p, hp, w => by
    have IH := Lib.hid (sameWays_n n hn k (by omega))
    obtain ⟨K, hK⟩ : ∃ K, K = k + 1 := ⟨_, rfl⟩
    have hk1 : (K : Int) - 1 = (k : Int) := by omega
    have hk2 : (K : Int) ≠ 0 := by omega
    have hkd : decide ((K : Int) = 0) = false := decide_eq_false hk2
    have hkb : ((K : Int) == 0) = false := beq_eq_false_iff_ne.2 hk2
    rw [← hK] at hk ⊢
    have HS := Lib.hid (show sw n K p = sumN (fun j => sw n k (p ^^^ sh n (j % 6) (j / 6))) 36 by rw [hK]; rfl)
    have HB := Lib.hid (fun j => sw_bd n k (p ^^^ sh n (j % 6) (j / 6)) (by omega))
    clear hK
    go_enter Try.func111, Try.ntmps111
    go_wp2
    go_loopw [7, 13] (fun s i wr => ∃ j S : Nat, j ≤ 36 ∧ S = sumN (fun j => sw n k (p ^^^ sh n (j % 6) (j / 6))) j ∧ i = .int .i64 j ∧ s = .int .i64 (S : Int) ∧ Ext w wr) (fun _ i _ => 36 - (intOf i).toNat)
    case atStart => exact ⟨0, 0, Nat.zero_le _, rfl, rfl, rfl, (by (repeat' (first | (with_reducible exact Ext.refl _) | (with_reducible assumption) | (with_reducible refine Ext.alloc ?_ _) | (with_reducible refine Ext.drew ?_) | (with_reducible refine Ext.drewN ?_ _) | (with_reducible refine Ext.setCell ?_ ?_ _) | (with_reducible refine Ext.trans ?_ (by assumption)))) <;> (first | (with_reducible assumption) | omega | (simp; done) | (simp; omega)))⟩
    case round =>
      obtain ⟨j, S, hj, hS, rfl, rfl, hx⟩ := hrel
      obtain ⟨wo, rfl⟩ : ∃ wo : World, wo = wr := ⟨_, rfl⟩
      have hSb : S ≤ 36 * 46656 := by rw [hS]; exact Nat.le_trans (sumN_le HB.out j) (Nat.mul_le_mul_right _ hj)
      by_cases hlt : j < 36
      · have H1 := Lib.hid (fun w => pressed_any n j hn hlt w)
        obtain ⟨z, hz⟩ : ∃ z, z = sh n (j % 6) (j / 6) := ⟨_, rfl⟩
        have hzl : z < 68719476736 := hz ▸ sh_lt _ _ _
        rw [← hz] at H1
        have e64 := xor64 hp hzl
        have H3 := Lib.hid (IH.out (p ^^^ z) (xor36 hp hzl))
        obtain ⟨T, hT⟩ : ∃ T, T = sw n k (p ^^^ z) := ⟨_, rfl⟩
        have hTb : T ≤ 46656 := by rw [hT]; exact sw_bd n k _ (by omega)
        rw [← hT] at H3
        have HN := Lib.hid (show S + T = sumN (fun j => sw n k (p ^^^ sh n (j % 6) (j / 6))) (j + 1) by rw [sumN, ← hS, hT, hz])
        clear hS hT hz
        go_wp2_with (first | (go_at_call 93; refine (H1.out _).mono ?_; rintro e w1 ⟨rfl, hE⟩) | (go_at_call 111; refine (H3.out _).mono ?_; rintro e w1 ⟨rfl, hE⟩))
        (first | exact ⟨⟨j + 1, S + T, by omega, HN.out, by go_num, by go_num, (by (repeat' (first | (with_reducible exact Ext.refl _) | (with_reducible assumption) | (with_reducible refine Ext.alloc ?_ _) | (with_reducible refine Ext.drew ?_) | (with_reducible refine Ext.drewN ?_ _) | (with_reducible refine Ext.setCell ?_ ?_ _) | (with_reducible refine Ext.trans ?_ (by assumption)))) <;> (first | (with_reducible assumption) | omega | (simp; done) | (simp; omega)))⟩, by simp [intOf]; omega⟩ | (refine ⟨?_, by simp [intOf]; omega⟩; (repeat apply Exists.intro); exact ⟨⟨j + 1, S + T, by omega, HN.out, by go_num, by go_num, (by (repeat' (first | (with_reducible exact Ext.refl _) | (with_reducible assumption) | (with_reducible refine Ext.alloc ?_ _) | (with_reducible refine Ext.drew ?_) | (with_reducible refine Ext.drewN ?_ _) | (with_reducible refine Ext.setCell ?_ ?_ _) | (with_reducible refine Ext.trans ?_ (by assumption)))) <;> (first | (with_reducible assumption) | omega | (simp; done) | (simp; omega)))⟩, rfl⟩))
      · obtain rfl : j = 36 := by omega
        replace HS := Lib.hid (HS.out.trans hS.symm)
        clear hS
        go_wp2
        go_returns
        exact ⟨ret_int (by rw [HS.out]), (by (repeat' (first | (with_reducible exact Ext.refl _) | (with_reducible assumption) | (with_reducible refine Ext.alloc ?_ _) | (with_reducible refine Ext.drew ?_) | (with_reducible refine Ext.drewN ?_ _) | (with_reducible refine Ext.setCell ?_ ?_ _) | (with_reducible refine Ext.trans ?_ (by assumption)))) <;> (first | (with_reducible assumption) | omega | (simp; done) | (simp; omega)))⟩
theorem l9Same_n (n : Nat) (hn : n < 68719476736) : ∀ k : Nat, k ≤ 3 → ∀ p : Nat, p < 68719476736 → ∀ w, Calls Try.prog 110 #[(.agg #[.int .i64 (rw n 0), .int .i64 (rw n 1), .int .i64 (rw n 2), .int .i64 (rw n 3), .int .i64 (rw n 4), .int .i64 (rw n 5)]), (.agg #[.int .i64 (rw p 0), .int .i64 (rw p 1), .int .i64 (rw p 2), .int .i64 (rw p 3), .int .i64 (rw p 4), .int .i64 (rw p 5)]), .int .i64 (k : Int)] w fun e w' => e = .returned (.int .i64 (sw n k p : Nat)) ∧ Ext w w'
  | 0, _, p, hp, w => by
    by_cases h0 : p = 0
    · have ez := eql_is (rw p) (fun _ => 0) true ((eqSz hp).trans (decide_eq_true h0))
      rw [sw, if_pos h0]
      clear h0
      skip
      go_enter Try.func110, Try.ntmps110
      go_wp2
      go_returns
      exact ⟨rfl, (by (repeat' (first | (with_reducible exact Ext.refl _) | (with_reducible assumption) | (with_reducible refine Ext.alloc ?_ _) | (with_reducible refine Ext.drew ?_) | (with_reducible refine Ext.drewN ?_ _) | (with_reducible refine Ext.setCell ?_ ?_ _) | (with_reducible refine Ext.trans ?_ (by assumption)))) <;> (first | (with_reducible assumption) | omega | (simp; done) | (simp; omega)))⟩
    · have ez := eql_is (rw p) (fun _ => 0) false ((eqSz hp).trans (decide_eq_false h0))
      rw [sw, if_neg h0]
      clear h0
      skip
      go_enter Try.func110, Try.ntmps110
      go_wp2
      go_returns
      exact ⟨rfl, (by (repeat' (first | (with_reducible exact Ext.refl _) | (with_reducible assumption) | (with_reducible refine Ext.alloc ?_ _) | (with_reducible refine Ext.drew ?_) | (with_reducible refine Ext.drewN ?_ _) | (with_reducible refine Ext.setCell ?_ ?_ _) | (with_reducible refine Ext.trans ?_ (by assumption)))) <;> (first | (with_reducible assumption) | omega | (simp; done) | (simp; omega)))⟩
  | k + 1, hk, p, hp, w => by
    have IH := Lib.hid (l9Same_n n hn k (by omega))
    obtain ⟨K, hK⟩ : ∃ K, K = k + 1 := ⟨_, rfl⟩
    have hk1 : (K : Int) - 1 = (k : Int) := by omega
    have hk2 : (K : Int) ≠ 0 := by omega
    have hkd : decide ((K : Int) = 0) = false := decide_eq_false hk2
    have hkb : ((K : Int) == 0) = false := beq_eq_false_iff_ne.2 hk2
    rw [← hK] at hk ⊢
    have HS := Lib.hid (show sw n K p = sumN (fun j => sw n k (p ^^^ sh n (j % 6) (j / 6))) 36 by rw [hK]; rfl)
    have HB := Lib.hid (fun j => sw_bd n k (p ^^^ sh n (j % 6) (j / 6)) (by omega))
    clear hK
    skip
    go_enter Try.func110, Try.ntmps110
    go_wp2
    go_loopw [7, 8] (fun s i wr => ∃ y S : Nat, y ≤ 6 ∧ S = sumN (fun j => sw n k (p ^^^ sh n (j % 6) (j / 6))) (6 * y) ∧ i = .int .i64 y ∧ s = .int .i64 (S : Int) ∧ Ext w wr ∧ Arr wr w.heap.size (rw n) ∧ Arr wr (w.heap.size + 1) (rw p) ∧ w.heap.size + 1 < wr.heap.size) (fun _ i _ => 6 - (intOf i).toNat)
    case atStart => exact ⟨0, 0, Nat.zero_le _, rfl, rfl, rfl, (by (repeat' (first | (with_reducible exact Ext.refl _) | (with_reducible assumption) | (with_reducible refine Ext.alloc ?_ _) | (with_reducible refine Ext.drew ?_) | (with_reducible refine Ext.drewN ?_ _) | (with_reducible refine Ext.setCell ?_ ?_ _) | (with_reducible refine Ext.trans ?_ (by assumption)))) <;> (first | (with_reducible assumption) | omega | (simp; done) | (simp; omega))), (Arr.new w (rw n) _ rfl).alloc _ (by simp), Arr.new _ (rw p) _ (by simp), by simp⟩
    case round =>
      obtain ⟨y, S, hy6, hS, rfl, rfl, hx, ha, hb, hz⟩ := hrel
      have HA := Lib.hid ha
      have HB2 := Lib.hid hb
      have HSy := Lib.hid hS
      clear ha hb hS
      by_cases hlt : y < 6
      · have hd : decide ((y : Int) < 6) = true := decide_eq_true (by omega)
        go_wp2
        go_loopw [7, 9] (fun s i wr => ∃ x S : Nat, x ≤ 6 ∧ S = sumN (fun j => sw n k (p ^^^ sh n (j % 6) (j / 6))) (6 * y + x) ∧ i = .int .i64 x ∧ s = .int .i64 (S : Int) ∧ Ext w wr ∧ Arr wr w.heap.size (rw n) ∧ Arr wr (w.heap.size + 1) (rw p) ∧ w.heap.size + 1 < wr.heap.size) (fun _ i _ => 6 - (intOf i).toNat)
        case atStart => exact ⟨0, S, Nat.zero_le _, HSy.out, rfl, rfl, hx, HA.out, HB2.out, hz⟩
        case round =>
          clear HA HB2 HSy hx hz
          obtain ⟨x, S, hx6, hS, rfl, rfl, hx, ha, hb, hz⟩ := hrel
          obtain ⟨wo, rfl⟩ : ∃ wo : World, wo = wr := ⟨_, rfl⟩
          have HA := Lib.hid ha
          have HB2 := Lib.hid hb
          clear ha hb
          have hSb : S ≤ 36 * 46656 := by rw [hS]; exact Nat.le_trans (sumN_le HB.out _) (Nat.mul_le_mul_right _ (by omega))
          by_cases hlx : x < 6
          · obtain ⟨⟨c0, c1, c2, c3, c4, c5⟩, _⟩ := HA.out.all
            obtain ⟨⟨d0, d1, d2, d3, d4, d5⟩, _⟩ := HB2.out.all
            have za : w.heap.size < wo.heap.size := by omega
            have H1 := Lib.hid (fun w => l2Shift_n n (x : Int) (y : Int) w)
            rw [show m6 (x : Int) = x by unfold m6; omega, show m6 (y : Int) = y by unfold m6; omega] at H1
            have H2 := Lib.hid (fun w => l2Xor_n p (sh n x y) w)
            have H3 := Lib.hid (IH.out (p ^^^ sh n x y) (xor36 hp (sh_lt _ _ _)))
            obtain ⟨T, hT⟩ : ∃ T, T = sw n k (p ^^^ sh n x y) := ⟨_, rfl⟩
            have hTb : T ≤ 46656 := by rw [hT]; exact sw_bd n k _ (by omega)
            rw [← hT] at H3
            have HN := Lib.hid (show S + T = sumN (fun j => sw n k (p ^^^ sh n (j % 6) (j / 6))) (6 * y + (x + 1)) by
              rw [show 6 * y + (x + 1) = 6 * y + x + 1 from rfl, sumN, ← hS, hT, show (6 * y + x) % 6 = x by omega, show (6 * y + x) / 6 = y by omega])
            clear hS hT
            go_wp2
            refine wp_calm0 (by kernel_rfl) (by kernel_rfl) ?_; intro hgr; (refine walkQ_step (fun K hK => ?_); go_simp; (try (go_ints; try go_simp)); first | (refine hK _ ?_; clear hK K) | (apply Exists.intro; refine ⟨fun _ => ?_, hK _ ?_⟩; (first | (go_at_call 77; exact (H1.out _)) | (go_at_call 138; exact (H2.out _)) | (go_at_call 110; exact (H3.out _))); clear hK K) | (simp only [↓IntWalk.iteOmega]; (try go_simp); (try (go_ints; try go_simp)); first | (refine hK _ ?_; clear hK K) | (apply Exists.intro; refine ⟨fun _ => ?_, hK _ ?_⟩; (first | (go_at_call 77; exact (H1.out _)) | (go_at_call 138; exact (H2.out _)) | (go_at_call 110; exact (H3.out _))); clear hK K))); (refine walkQ_step (fun K hK => ?_); go_simp; (try (go_ints; try go_simp)); first | (refine hK _ ?_; clear hK K) | (apply Exists.intro; refine ⟨fun _ => ?_, hK _ ?_⟩; (first | (go_at_call 77; exact (H1.out _)) | (go_at_call 138; exact (H2.out _)) | (go_at_call 110; exact (H3.out _))); clear hK K) | (simp only [↓IntWalk.iteOmega]; (try go_simp); (try (go_ints; try go_simp)); first | (refine hK _ ?_; clear hK K) | (apply Exists.intro; refine ⟨fun _ => ?_, hK _ ?_⟩; (first | (go_at_call 77; exact (H1.out _)) | (go_at_call 138; exact (H2.out _)) | (go_at_call 110; exact (H3.out _))); clear hK K))); (refine walkQ_step (fun K hK => ?_); go_simp; (try (go_ints; try go_simp)); first | (refine hK _ ?_; clear hK K) | (apply Exists.intro; refine ⟨fun _ => ?_, hK _ ?_⟩; (first | (go_at_call 77; exact (H1.out _)) | (go_at_call 138; exact (H2.out _)) | (go_at_call 110; exact (H3.out _))); clear hK K) | (simp only [↓IntWalk.iteOmega]; (try go_simp); (try (go_ints; try go_simp)); first | (refine hK _ ?_; clear hK K) | (apply Exists.intro; refine ⟨fun _ => ?_, hK _ ?_⟩; (first | (go_at_call 77; exact (H1.out _)) | (go_at_call 138; exact (H2.out _)) | (go_at_call 110; exact (H3.out _))); clear hK K))); (refine walkQ_step (fun K hK => ?_); go_simp; (try (go_ints; try go_simp)); first | (refine hK _ ?_; clear hK K) | (apply Exists.intro; refine ⟨fun _ => ?_, hK _ ?_⟩; (first | (go_at_call 77; exact (H1.out _)) | (go_at_call 138; exact (H2.out _)) | (go_at_call 110; exact (H3.out _))); clear hK K) | (simp only [↓IntWalk.iteOmega]; (try go_simp); (try (go_ints; try go_simp)); first | (refine hK _ ?_; clear hK K) | (apply Exists.intro; refine ⟨fun _ => ?_, hK _ ?_⟩; (first | (go_at_call 77; exact (H1.out _)) | (go_at_call 138; exact (H2.out _)) | (go_at_call 110; exact (H3.out _))); clear hK K))); (refine walkQ_step (fun K hK => ?_); go_simp; (try (go_ints; try go_simp)); first | (refine hK _ ?_; clear hK K) | (apply Exists.intro; refine ⟨fun _ => ?_, hK _ ?_⟩; (first | (go_at_call 77; exact (H1.out _)) | (go_at_call 138; exact (H2.out _)) | (go_at_call 110; exact (H3.out _))); clear hK K) | (simp only [↓IntWalk.iteOmega]; (try go_simp); (try (go_ints; try go_simp)); first | (refine hK _ ?_; clear hK K) | (apply Exists.intro; refine ⟨fun _ => ?_, hK _ ?_⟩; (first | (go_at_call 77; exact (H1.out _)) | (go_at_call 138; exact (H2.out _)) | (go_at_call 110; exact (H3.out _))); clear hK K))); (refine walkQ_step (fun K hK => ?_); go_simp; (try (go_ints; try go_simp)); first | (refine hK _ ?_; clear hK K) | (apply Exists.intro; refine ⟨fun _ => ?_, hK _ ?_⟩; (first | (go_at_call 77; exact (H1.out _)) | (go_at_call 138; exact (H2.out _)) | (go_at_call 110; exact (H3.out _))); clear hK K) | (simp only [↓IntWalk.iteOmega]; (try go_simp); (try (go_ints; try go_simp)); first | (refine hK _ ?_; clear hK K) | (apply Exists.intro; refine ⟨fun _ => ?_, hK _ ?_⟩; (first | (go_at_call 77; exact (H1.out _)) | (go_at_call 138; exact (H2.out _)) | (go_at_call 110; exact (H3.out _))); clear hK K))); (refine walkQ_step (fun K hK => ?_); go_simp; (try (go_ints; try go_simp)); first | (refine hK _ ?_; clear hK K) | (apply Exists.intro; refine ⟨fun _ => ?_, hK _ ?_⟩; (first | (go_at_call 77; exact (H1.out _)) | (go_at_call 138; exact (H2.out _)) | (go_at_call 110; exact (H3.out _))); clear hK K) | (simp only [↓IntWalk.iteOmega]; (try go_simp); (try (go_ints; try go_simp)); first | (refine hK _ ?_; clear hK K) | (apply Exists.intro; refine ⟨fun _ => ?_, hK _ ?_⟩; (first | (go_at_call 77; exact (H1.out _)) | (go_at_call 138; exact (H2.out _)) | (go_at_call 110; exact (H3.out _))); clear hK K))); (refine walkQ_step (fun K hK => ?_); go_simp; (try (go_ints; try go_simp)); first | (refine hK _ ?_; clear hK K) | (apply Exists.intro; refine ⟨fun _ => ?_, hK _ ?_⟩; (first | (go_at_call 77; exact (H1.out _)) | (go_at_call 138; exact (H2.out _)) | (go_at_call 110; exact (H3.out _))); clear hK K) | (simp only [↓IntWalk.iteOmega]; (try go_simp); (try (go_ints; try go_simp)); first | (refine hK _ ?_; clear hK K) | (apply Exists.intro; refine ⟨fun _ => ?_, hK _ ?_⟩; (first | (go_at_call 77; exact (H1.out _)) | (go_at_call 138; exact (H2.out _)) | (go_at_call 110; exact (H3.out _))); clear hK K))); (refine walkQ_step (fun K hK => ?_); go_simp; (try (go_ints; try go_simp)); first | (refine hK _ ?_; clear hK K) | (apply Exists.intro; refine ⟨fun _ => ?_, hK _ ?_⟩; (first | (go_at_call 77; exact (H1.out _)) | (go_at_call 138; exact (H2.out _)) | (go_at_call 110; exact (H3.out _))); clear hK K) | (simp only [↓IntWalk.iteOmega]; (try go_simp); (try (go_ints; try go_simp)); first | (refine hK _ ?_; clear hK K) | (apply Exists.intro; refine ⟨fun _ => ?_, hK _ ?_⟩; (first | (go_at_call 77; exact (H1.out _)) | (go_at_call 138; exact (H2.out _)) | (go_at_call 110; exact (H3.out _))); clear hK K))); (refine walkQ_step (fun K hK => ?_); go_simp; (try (go_ints; try go_simp)); first | (refine hK _ ?_; clear hK K) | (apply Exists.intro; refine ⟨fun _ => ?_, hK _ ?_⟩; (first | (go_at_call 77; exact (H1.out _)) | (go_at_call 138; exact (H2.out _)) | (go_at_call 110; exact (H3.out _))); clear hK K) | (simp only [↓IntWalk.iteOmega]; (try go_simp); (try (go_ints; try go_simp)); first | (refine hK _ ?_; clear hK K) | (apply Exists.intro; refine ⟨fun _ => ?_, hK _ ?_⟩; (first | (go_at_call 77; exact (H1.out _)) | (go_at_call 138; exact (H2.out _)) | (go_at_call 110; exact (H3.out _))); clear hK K))); (refine walkQ_step (fun K hK => ?_); go_simp; (try (go_ints; try go_simp)); first | (refine hK _ ?_; clear hK K) | (apply Exists.intro; refine ⟨fun _ => ?_, hK _ ?_⟩; (first | (go_at_call 77; exact (H1.out _)) | (go_at_call 138; exact (H2.out _)) | (go_at_call 110; exact (H3.out _))); clear hK K) | (simp only [↓IntWalk.iteOmega]; (try go_simp); (try (go_ints; try go_simp)); first | (refine hK _ ?_; clear hK K) | (apply Exists.intro; refine ⟨fun _ => ?_, hK _ ?_⟩; (first | (go_at_call 77; exact (H1.out _)) | (go_at_call 138; exact (H2.out _)) | (go_at_call 110; exact (H3.out _))); clear hK K))); (refine walkQ_step (fun K hK => ?_); go_simp; (try (go_ints; try go_simp)); first | (refine hK _ ?_; clear hK K) | (apply Exists.intro; refine ⟨fun _ => ?_, hK _ ?_⟩; (first | (go_at_call 77; exact (H1.out _)) | (go_at_call 138; exact (H2.out _)) | (go_at_call 110; exact (H3.out _))); clear hK K) | (simp only [↓IntWalk.iteOmega]; (try go_simp); (try (go_ints; try go_simp)); first | (refine hK _ ?_; clear hK K) | (apply Exists.intro; refine ⟨fun _ => ?_, hK _ ?_⟩; (first | (go_at_call 77; exact (H1.out _)) | (go_at_call 138; exact (H2.out _)) | (go_at_call 110; exact (H3.out _))); clear hK K))); (refine walkQ_step (fun K hK => ?_); go_simp; (try (go_ints; try go_simp)); first | (refine hK _ ?_; clear hK K) | (apply Exists.intro; refine ⟨fun _ => ?_, hK _ ?_⟩; (first | (go_at_call 77; exact (H1.out _)) | (go_at_call 138; exact (H2.out _)) | (go_at_call 110; exact (H3.out _))); clear hK K) | (simp only [↓IntWalk.iteOmega]; (try go_simp); (try (go_ints; try go_simp)); first | (refine hK _ ?_; clear hK K) | (apply Exists.intro; refine ⟨fun _ => ?_, hK _ ?_⟩; (first | (go_at_call 77; exact (H1.out _)) | (go_at_call 138; exact (H2.out _)) | (go_at_call 110; exact (H3.out _))); clear hK K))); refine walkQ_nil ?_; clear hgr; intro w1 hE; have hc2 := hE.cells; have hf2 := hE.frees; have hz2 := hE.size
            replace hE : Ext wo w1 := ((Ext.refl wo).drew).trans hE
            have hs := hE.size
            go_wp2
            (first | exact ⟨⟨x + 1, S + T, by omega, HN.out, by go_num, by go_num, (by (repeat' (first | (with_reducible exact Ext.refl _) | (with_reducible assumption) | (with_reducible refine Ext.alloc ?_ _) | (with_reducible refine Ext.drew ?_) | (with_reducible refine Ext.drewN ?_ _) | (with_reducible refine Ext.setCell ?_ ?_ _) | (with_reducible refine Ext.trans ?_ (by assumption)))) <;> (first | (with_reducible assumption) | omega | (simp; done) | (simp; omega))), HA.out.ext hE za, HB2.out.ext hE hz, by omega⟩, by simp [intOf]; omega⟩ | (refine ⟨?_, by simp [intOf]; omega⟩; (repeat apply Exists.intro); exact ⟨⟨x + 1, S + T, by omega, HN.out, by go_num, by go_num, (by (repeat' (first | (with_reducible exact Ext.refl _) | (with_reducible assumption) | (with_reducible refine Ext.alloc ?_ _) | (with_reducible refine Ext.drew ?_) | (with_reducible refine Ext.drewN ?_ _) | (with_reducible refine Ext.setCell ?_ ?_ _) | (with_reducible refine Ext.trans ?_ (by assumption)))) <;> (first | (with_reducible assumption) | omega | (simp; done) | (simp; omega))), HA.out.ext hE za, HB2.out.ext hE hz, by omega⟩, rfl⟩))
          · obtain rfl : x = 6 := by omega
            have HSy := Lib.hid hS
            clear hS
            go_wp2
            (first | exact ⟨⟨y + 1, S, by omega, by rw [show 6 * (y + 1) = 6 * y + 6 by omega]; exact HSy.out, by go_num, rfl, hx, HA.out, HB2.out, hz⟩, by simp [intOf]; omega⟩ | (refine ⟨?_, by simp [intOf]; omega⟩; (repeat apply Exists.intro); exact ⟨⟨y + 1, S, by omega, by rw [show 6 * (y + 1) = 6 * y + 6 by omega]; exact HSy.out, by go_num, rfl, hx, HA.out, HB2.out, hz⟩, rfl⟩))
      · obtain rfl : y = 6 := by omega
        replace HS := Lib.hid (HS.out.trans HSy.out.symm)
        clear HSy
        go_wp2
        go_returns
        exact ⟨ret_int (by rw [HS.out]), (by (repeat' (first | (with_reducible exact Ext.refl _) | (with_reducible assumption) | (with_reducible refine Ext.alloc ?_ _) | (with_reducible refine Ext.drew ?_) | (with_reducible refine Ext.drewN ?_ _) | (with_reducible refine Ext.setCell ?_ ?_ _) | (with_reducible refine Ext.trans ?_ (by assumption)))) <;> (first | (with_reducible assumption) | omega | (simp; done) | (simp; omega)))⟩
theorem sChanceSame_bad (r : Nat → Int) (i : Int) (h : (vs r && inR i 0 3) = false) (w : World) : Calls Try.prog 53 #[(.agg #[.int .i64 (r 0), .int .i64 (r 1), .int .i64 (r 2), .int .i64 (r 3), .int .i64 (r 4), .int .i64 (r 5)]), .int .i64 i] w fun e w' => e = .returned (.tuple #[(.agg #[.int .i64 (0), .int .i64 (0)]), .bool false]) ∧ Ext w w' := by
  cases h1 : vs r <;> cases h2 : inR i 0 3 <;> rw [h1, h2] at h
  all_goals first
    | (exact absurd h (by decide))
    | skip
  all_goals
    clear h
    replace h1 := Lib.hid h1
    replace h2 := Lib.hid h2
    skip
    go_enter Try.func53, Try.ntmps53
    go_wp2_with (first | (go_at_call 71; refine (l2Sheet_is r _ h1.out _).mono ?_; rintro e w1 ⟨rfl, hE⟩; replace HR := Lib.hid ((show Arr2 _ (w.heap.size + 1) (fun _ => 0) by first | exact HR.out | exact Arr2.new _ (fun _ => 0) _ (by first | rfl | (simp; done) | (simp; omega))).ext hE (by first | exact lR | (simp; done) | (simp; omega))); replace lR : w.heap.size + 1 < w1.heap.size := Nat.lt_of_lt_of_le (by first | exact lR | (simp; done) | (simp; omega)) hE.size; (try clear d0 d1 f0 f1); obtain ⟨⟨d0, d1⟩, f0, f1⟩ := HR.out.all; replace k0_0 : w1.cell? ⟨w.heap.size, 0, none⟩ = some (.int .i64 (r 0)) := (hE.cells _ _ (by first | exact l0 | (simp; done) | (simp; omega))).trans (by first | exact k0_0 | (go_simp; done)); replace k0_1 : w1.cell? ⟨w.heap.size, 1, none⟩ = some (.int .i64 (r 1)) := (hE.cells _ _ (by first | exact l0 | (simp; done) | (simp; omega))).trans (by first | exact k0_1 | (go_simp; done)); replace k0_2 : w1.cell? ⟨w.heap.size, 2, none⟩ = some (.int .i64 (r 2)) := (hE.cells _ _ (by first | exact l0 | (simp; done) | (simp; omega))).trans (by first | exact k0_2 | (go_simp; done)); replace k0_3 : w1.cell? ⟨w.heap.size, 3, none⟩ = some (.int .i64 (r 3)) := (hE.cells _ _ (by first | exact l0 | (simp; done) | (simp; omega))).trans (by first | exact k0_3 | (go_simp; done)); replace k0_4 : w1.cell? ⟨w.heap.size, 4, none⟩ = some (.int .i64 (r 4)) := (hE.cells _ _ (by first | exact l0 | (simp; done) | (simp; omega))).trans (by first | exact k0_4 | (go_simp; done)); replace k0_5 : w1.cell? ⟨w.heap.size, 5, none⟩ = some (.int .i64 (r 5)) := (hE.cells _ _ (by first | exact l0 | (simp; done) | (simp; omega))).trans (by first | exact k0_5 | (go_simp; done)); replace l0 : w.heap.size < w1.heap.size := Nat.lt_of_lt_of_le (by first | exact l0 | (simp; done) | (simp; omega)) hE.size) | (go_at_call 91; refine (l1In_is i _ _ _ h2.out _).mono ?_; rintro e w' ⟨rfl, rfl⟩))
    exact bodyPost_ret (ret_cell_tmp rfl rfl rfl (load_two (HR.out.two (0) (0)))) rfl ⟨rfl, (by (repeat' (first | (with_reducible exact Ext.refl _) | (with_reducible assumption) | (with_reducible refine Ext.alloc ?_ _) | (with_reducible refine Ext.drew ?_) | (with_reducible refine Ext.drewN ?_ _) | (with_reducible refine Ext.setCell ?_ ?_ _) | (with_reducible refine Ext.trans ?_ (by assumption)))) <;> (first | (with_reducible assumption) | omega | (simp; done) | (simp; omega)))⟩
theorem sChanceSame_ok (n k : Nat) (hn : n < 68719476736) (hk : k ≤ 3) (N D : Nat) (hD : D = 36 ^ k) (hN : N = sw n k 0) (w : World) : Calls Try.prog 53 #[(.agg #[.int .i64 (rw n 0), .int .i64 (rw n 1), .int .i64 (rw n 2), .int .i64 (rw n 3), .int .i64 (rw n 4), .int .i64 (rw n 5)]), .int .i64 (k : Int)] w fun e w' => e = .returned (.tuple #[(.agg #[.int .i64 ((cut N D : Nat)), .int .i64 ((cutD N D : Nat))]), .bool true]) ∧ Ext w w' := by
  have hD0 : 0 < D := by rw [hD]; exact Nat.pow_pos (by omega)
  have hDb : D ≤ 2176782336 := by rw [hD]; exact pow_bd (Nat.le_refl _) (by omega)
  have hNb : N ≤ 46656 := by rw [hN]; exact sw_bd n k 0 hk
  have H2 := Lib.hid ((inR_iff (k : Int) 0 3).2 (by omega))
  have HS := Lib.hid (fun w => l9Same_n n hn k hk 0 (by omega) w)
  simp only [rwz] at HS
  rw [← hN] at HS
  have HP := Lib.hid (fun w => l9Power_36 k (by omega) w)
  rw [← hD] at HP
  have HC := Lib.hid (fun w => l9Cut_n N D hD0 (by omega) (by omega) w)
  clear hN hD
  skip
  go_enter Try.func53, Try.ntmps53
  go_wp2_with (first | (go_at_call 71; refine (l2Sheet_n n _).mono ?_; rintro e w1 ⟨rfl, hE⟩; replace HR := Lib.hid ((show Arr2 _ (w.heap.size + 1) (fun _ => 0) by first | exact HR.out | exact Arr2.new _ (fun _ => 0) _ (by first | rfl | (simp; done) | (simp; omega))).ext hE (by first | exact lR | (simp; done) | (simp; omega))); replace lR : w.heap.size + 1 < w1.heap.size := Nat.lt_of_lt_of_le (by first | exact lR | (simp; done) | (simp; omega)) hE.size; (try clear d0 d1 f0 f1); obtain ⟨⟨d0, d1⟩, f0, f1⟩ := HR.out.all; replace k0_0 : w1.cell? ⟨w.heap.size, 0, none⟩ = some (.int .i64 (rw n 0)) := (hE.cells _ _ (by first | exact l0 | (simp; done) | (simp; omega))).trans (by first | exact k0_0 | (go_simp; done)); replace k0_1 : w1.cell? ⟨w.heap.size, 1, none⟩ = some (.int .i64 (rw n 1)) := (hE.cells _ _ (by first | exact l0 | (simp; done) | (simp; omega))).trans (by first | exact k0_1 | (go_simp; done)); replace k0_2 : w1.cell? ⟨w.heap.size, 2, none⟩ = some (.int .i64 (rw n 2)) := (hE.cells _ _ (by first | exact l0 | (simp; done) | (simp; omega))).trans (by first | exact k0_2 | (go_simp; done)); replace k0_3 : w1.cell? ⟨w.heap.size, 3, none⟩ = some (.int .i64 (rw n 3)) := (hE.cells _ _ (by first | exact l0 | (simp; done) | (simp; omega))).trans (by first | exact k0_3 | (go_simp; done)); replace k0_4 : w1.cell? ⟨w.heap.size, 4, none⟩ = some (.int .i64 (rw n 4)) := (hE.cells _ _ (by first | exact l0 | (simp; done) | (simp; omega))).trans (by first | exact k0_4 | (go_simp; done)); replace k0_5 : w1.cell? ⟨w.heap.size, 5, none⟩ = some (.int .i64 (rw n 5)) := (hE.cells _ _ (by first | exact l0 | (simp; done) | (simp; omega))).trans (by first | exact k0_5 | (go_simp; done)); replace l0 : w.heap.size < w1.heap.size := Nat.lt_of_lt_of_le (by first | exact l0 | (simp; done) | (simp; omega)) hE.size) | (go_at_call 91; refine (l1In_is (k : Int) _ _ _ H2.out _).mono ?_; rintro e w' ⟨rfl, rfl⟩) | (go_at_call 110; refine (HS.out _).mono ?_; rintro e w1 ⟨rfl, hE⟩; replace HR := Lib.hid ((show Arr2 _ (w.heap.size + 1) (fun _ => 0) by first | exact HR.out | exact Arr2.new _ (fun _ => 0) _ (by first | rfl | (simp; done) | (simp; omega))).ext hE (by first | exact lR | (simp; done) | (simp; omega))); replace lR : w.heap.size + 1 < w1.heap.size := Nat.lt_of_lt_of_le (by first | exact lR | (simp; done) | (simp; omega)) hE.size; (try clear d0 d1 f0 f1); obtain ⟨⟨d0, d1⟩, f0, f1⟩ := HR.out.all; replace k0_0 : w1.cell? ⟨w.heap.size, 0, none⟩ = some (.int .i64 (rw n 0)) := (hE.cells _ _ (by first | exact l0 | (simp; done) | (simp; omega))).trans (by first | exact k0_0 | (go_simp; done)); replace k0_1 : w1.cell? ⟨w.heap.size, 1, none⟩ = some (.int .i64 (rw n 1)) := (hE.cells _ _ (by first | exact l0 | (simp; done) | (simp; omega))).trans (by first | exact k0_1 | (go_simp; done)); replace k0_2 : w1.cell? ⟨w.heap.size, 2, none⟩ = some (.int .i64 (rw n 2)) := (hE.cells _ _ (by first | exact l0 | (simp; done) | (simp; omega))).trans (by first | exact k0_2 | (go_simp; done)); replace k0_3 : w1.cell? ⟨w.heap.size, 3, none⟩ = some (.int .i64 (rw n 3)) := (hE.cells _ _ (by first | exact l0 | (simp; done) | (simp; omega))).trans (by first | exact k0_3 | (go_simp; done)); replace k0_4 : w1.cell? ⟨w.heap.size, 4, none⟩ = some (.int .i64 (rw n 4)) := (hE.cells _ _ (by first | exact l0 | (simp; done) | (simp; omega))).trans (by first | exact k0_4 | (go_simp; done)); replace k0_5 : w1.cell? ⟨w.heap.size, 5, none⟩ = some (.int .i64 (rw n 5)) := (hE.cells _ _ (by first | exact l0 | (simp; done) | (simp; omega))).trans (by first | exact k0_5 | (go_simp; done)); replace l0 : w.heap.size < w1.heap.size := Nat.lt_of_lt_of_le (by first | exact l0 | (simp; done) | (simp; omega)) hE.size) | (go_at_call 101; refine (HP.out _).mono ?_; rintro e w' ⟨rfl, rfl⟩) | (go_at_call 99; refine (HC.out _).mono ?_; rintro e w1 ⟨rfl, hE⟩; replace HR := Lib.hid ((show Arr2 _ (w.heap.size + 1) (fun _ => 0) by first | exact HR.out | exact Arr2.new _ (fun _ => 0) _ (by first | rfl | (simp; done) | (simp; omega))).ext hE (by first | exact lR | (simp; done) | (simp; omega))); replace lR : w.heap.size + 1 < w1.heap.size := Nat.lt_of_lt_of_le (by first | exact lR | (simp; done) | (simp; omega)) hE.size; (try clear d0 d1 f0 f1); obtain ⟨⟨d0, d1⟩, f0, f1⟩ := HR.out.all; replace k0_0 : w1.cell? ⟨w.heap.size, 0, none⟩ = some (.int .i64 (rw n 0)) := (hE.cells _ _ (by first | exact l0 | (simp; done) | (simp; omega))).trans (by first | exact k0_0 | (go_simp; done)); replace k0_1 : w1.cell? ⟨w.heap.size, 1, none⟩ = some (.int .i64 (rw n 1)) := (hE.cells _ _ (by first | exact l0 | (simp; done) | (simp; omega))).trans (by first | exact k0_1 | (go_simp; done)); replace k0_2 : w1.cell? ⟨w.heap.size, 2, none⟩ = some (.int .i64 (rw n 2)) := (hE.cells _ _ (by first | exact l0 | (simp; done) | (simp; omega))).trans (by first | exact k0_2 | (go_simp; done)); replace k0_3 : w1.cell? ⟨w.heap.size, 3, none⟩ = some (.int .i64 (rw n 3)) := (hE.cells _ _ (by first | exact l0 | (simp; done) | (simp; omega))).trans (by first | exact k0_3 | (go_simp; done)); replace k0_4 : w1.cell? ⟨w.heap.size, 4, none⟩ = some (.int .i64 (rw n 4)) := (hE.cells _ _ (by first | exact l0 | (simp; done) | (simp; omega))).trans (by first | exact k0_4 | (go_simp; done)); replace k0_5 : w1.cell? ⟨w.heap.size, 5, none⟩ = some (.int .i64 (rw n 5)) := (hE.cells _ _ (by first | exact l0 | (simp; done) | (simp; omega))).trans (by first | exact k0_5 | (go_simp; done)); replace l0 : w.heap.size < w1.heap.size := Nat.lt_of_lt_of_le (by first | exact l0 | (simp; done) | (simp; omega)) hE.size))
  exact bodyPost_ret (ret_cell_tmp rfl rfl rfl (load_two (HR.out.two ((cut N D : Nat)) ((cutD N D : Nat))))) rfl ⟨rfl, (by (repeat' (first | (with_reducible exact Ext.refl _) | (with_reducible assumption) | (with_reducible refine Ext.alloc ?_ _) | (with_reducible refine Ext.drew ?_) | (with_reducible refine Ext.drewN ?_ _) | (with_reducible refine Ext.setCell ?_ ?_ _) | (with_reducible refine Ext.trans ?_ (by assumption)))) <;> (first | (with_reducible assumption) | omega | (simp; done) | (simp; omega)))⟩
theorem ChanceSame_bad (r : Nat → Int) (i : Int) (h : (vs r && inR i 0 3) = false) (w : World) : Calls Try.prog 54 #[(.agg #[.int .i64 (r 0), .int .i64 (r 1), .int .i64 (r 2), .int .i64 (r 3), .int .i64 (r 4), .int .i64 (r 5)]), .int .i64 i] w fun e w' => e = .returned (.tuple #[(.agg #[.int .i64 (0), .int .i64 (0)]), .bool false]) ∧ Ext w w' := by
  cases h1 : vs r
  · have HO := Lib.hid (fun w => setOf_is r _ h1 w)
    generalize setN r = a at *
    clear h h1
    skip
    go_enter Try.func54, Try.ntmps54
    go_wp2_with (go_at_call 73; refine (HO.out _).mono ?_; rintro e w1 ⟨rfl, hE⟩; replace HR := Lib.hid ((show Arr2 _ (w.heap.size + 1) (fun _ => 0) by first | exact HR.out | exact Arr2.new _ (fun _ => 0) _ (by first | rfl | (simp; done) | (simp; omega))).ext hE (by first | exact lR | (simp; done) | (simp; omega))); replace lR : w.heap.size + 1 < w1.heap.size := Nat.lt_of_lt_of_le (by first | exact lR | (simp; done) | (simp; omega)) hE.size; (try clear d0 d1 f0 f1); obtain ⟨⟨d0, d1⟩, f0, f1⟩ := HR.out.all; replace k0_0 : w1.cell? ⟨w.heap.size, 0, none⟩ = some (.int .i64 (r 0)) := (hE.cells _ _ (by first | exact l0 | (simp; done) | (simp; omega))).trans (by first | exact k0_0 | (go_simp; done)); replace k0_1 : w1.cell? ⟨w.heap.size, 1, none⟩ = some (.int .i64 (r 1)) := (hE.cells _ _ (by first | exact l0 | (simp; done) | (simp; omega))).trans (by first | exact k0_1 | (go_simp; done)); replace k0_2 : w1.cell? ⟨w.heap.size, 2, none⟩ = some (.int .i64 (r 2)) := (hE.cells _ _ (by first | exact l0 | (simp; done) | (simp; omega))).trans (by first | exact k0_2 | (go_simp; done)); replace k0_3 : w1.cell? ⟨w.heap.size, 3, none⟩ = some (.int .i64 (r 3)) := (hE.cells _ _ (by first | exact l0 | (simp; done) | (simp; omega))).trans (by first | exact k0_3 | (go_simp; done)); replace k0_4 : w1.cell? ⟨w.heap.size, 4, none⟩ = some (.int .i64 (r 4)) := (hE.cells _ _ (by first | exact l0 | (simp; done) | (simp; omega))).trans (by first | exact k0_4 | (go_simp; done)); replace k0_5 : w1.cell? ⟨w.heap.size, 5, none⟩ = some (.int .i64 (r 5)) := (hE.cells _ _ (by first | exact l0 | (simp; done) | (simp; omega))).trans (by first | exact k0_5 | (go_simp; done)); replace l0 : w.heap.size < w1.heap.size := Nat.lt_of_lt_of_le (by first | exact l0 | (simp; done) | (simp; omega)) hE.size)
    exact bodyPost_ret (ret_cell_tmp rfl rfl rfl (load_two (HR.out.two (0) (0)))) rfl ⟨rfl, (by (repeat' (first | (with_reducible exact Ext.refl _) | (with_reducible assumption) | (with_reducible refine Ext.alloc ?_ _) | (with_reducible refine Ext.drew ?_) | (with_reducible refine Ext.drewN ?_ _) | (with_reducible refine Ext.setCell ?_ ?_ _) | (with_reducible refine Ext.trans ?_ (by assumption)))) <;> (first | (with_reducible assumption) | omega | (simp; done) | (simp; omega)))⟩
  · have HO := Lib.hid (fun w => setOf_is r _ h1 w)
    generalize setN r = a at *
    have h2 : ¬ (0 ≤ i ∧ i ≤ 3) := fun hi => by rw [h1, (inR_iff i 0 3).2 hi] at h; cases h
    clear h h1
    by_cases h3 : i < 0
    · skip
      go_enter Try.func54, Try.ntmps54
      go_wp2_with (go_at_call 73; refine (HO.out _).mono ?_; rintro e w1 ⟨rfl, hE⟩; replace HR := Lib.hid ((show Arr2 _ (w.heap.size + 1) (fun _ => 0) by first | exact HR.out | exact Arr2.new _ (fun _ => 0) _ (by first | rfl | (simp; done) | (simp; omega))).ext hE (by first | exact lR | (simp; done) | (simp; omega))); replace lR : w.heap.size + 1 < w1.heap.size := Nat.lt_of_lt_of_le (by first | exact lR | (simp; done) | (simp; omega)) hE.size; (try clear d0 d1 f0 f1); obtain ⟨⟨d0, d1⟩, f0, f1⟩ := HR.out.all; replace k0_0 : w1.cell? ⟨w.heap.size, 0, none⟩ = some (.int .i64 (r 0)) := (hE.cells _ _ (by first | exact l0 | (simp; done) | (simp; omega))).trans (by first | exact k0_0 | (go_simp; done)); replace k0_1 : w1.cell? ⟨w.heap.size, 1, none⟩ = some (.int .i64 (r 1)) := (hE.cells _ _ (by first | exact l0 | (simp; done) | (simp; omega))).trans (by first | exact k0_1 | (go_simp; done)); replace k0_2 : w1.cell? ⟨w.heap.size, 2, none⟩ = some (.int .i64 (r 2)) := (hE.cells _ _ (by first | exact l0 | (simp; done) | (simp; omega))).trans (by first | exact k0_2 | (go_simp; done)); replace k0_3 : w1.cell? ⟨w.heap.size, 3, none⟩ = some (.int .i64 (r 3)) := (hE.cells _ _ (by first | exact l0 | (simp; done) | (simp; omega))).trans (by first | exact k0_3 | (go_simp; done)); replace k0_4 : w1.cell? ⟨w.heap.size, 4, none⟩ = some (.int .i64 (r 4)) := (hE.cells _ _ (by first | exact l0 | (simp; done) | (simp; omega))).trans (by first | exact k0_4 | (go_simp; done)); replace k0_5 : w1.cell? ⟨w.heap.size, 5, none⟩ = some (.int .i64 (r 5)) := (hE.cells _ _ (by first | exact l0 | (simp; done) | (simp; omega))).trans (by first | exact k0_5 | (go_simp; done)); replace l0 : w.heap.size < w1.heap.size := Nat.lt_of_lt_of_le (by first | exact l0 | (simp; done) | (simp; omega)) hE.size)
      exact bodyPost_ret (ret_cell_tmp rfl rfl rfl (load_two (HR.out.two (0) (0)))) rfl ⟨rfl, (by (repeat' (first | (with_reducible exact Ext.refl _) | (with_reducible assumption) | (with_reducible refine Ext.alloc ?_ _) | (with_reducible refine Ext.drew ?_) | (with_reducible refine Ext.drewN ?_ _) | (with_reducible refine Ext.setCell ?_ ?_ _) | (with_reducible refine Ext.trans ?_ (by assumption)))) <;> (first | (with_reducible assumption) | omega | (simp; done) | (simp; omega)))⟩
    · have h4 : 3 < i := by omega
      skip
      go_enter Try.func54, Try.ntmps54
      go_wp2_with (go_at_call 73; refine (HO.out _).mono ?_; rintro e w1 ⟨rfl, hE⟩; replace HR := Lib.hid ((show Arr2 _ (w.heap.size + 1) (fun _ => 0) by first | exact HR.out | exact Arr2.new _ (fun _ => 0) _ (by first | rfl | (simp; done) | (simp; omega))).ext hE (by first | exact lR | (simp; done) | (simp; omega))); replace lR : w.heap.size + 1 < w1.heap.size := Nat.lt_of_lt_of_le (by first | exact lR | (simp; done) | (simp; omega)) hE.size; (try clear d0 d1 f0 f1); obtain ⟨⟨d0, d1⟩, f0, f1⟩ := HR.out.all; replace k0_0 : w1.cell? ⟨w.heap.size, 0, none⟩ = some (.int .i64 (r 0)) := (hE.cells _ _ (by first | exact l0 | (simp; done) | (simp; omega))).trans (by first | exact k0_0 | (go_simp; done)); replace k0_1 : w1.cell? ⟨w.heap.size, 1, none⟩ = some (.int .i64 (r 1)) := (hE.cells _ _ (by first | exact l0 | (simp; done) | (simp; omega))).trans (by first | exact k0_1 | (go_simp; done)); replace k0_2 : w1.cell? ⟨w.heap.size, 2, none⟩ = some (.int .i64 (r 2)) := (hE.cells _ _ (by first | exact l0 | (simp; done) | (simp; omega))).trans (by first | exact k0_2 | (go_simp; done)); replace k0_3 : w1.cell? ⟨w.heap.size, 3, none⟩ = some (.int .i64 (r 3)) := (hE.cells _ _ (by first | exact l0 | (simp; done) | (simp; omega))).trans (by first | exact k0_3 | (go_simp; done)); replace k0_4 : w1.cell? ⟨w.heap.size, 4, none⟩ = some (.int .i64 (r 4)) := (hE.cells _ _ (by first | exact l0 | (simp; done) | (simp; omega))).trans (by first | exact k0_4 | (go_simp; done)); replace k0_5 : w1.cell? ⟨w.heap.size, 5, none⟩ = some (.int .i64 (r 5)) := (hE.cells _ _ (by first | exact l0 | (simp; done) | (simp; omega))).trans (by first | exact k0_5 | (go_simp; done)); replace l0 : w.heap.size < w1.heap.size := Nat.lt_of_lt_of_le (by first | exact l0 | (simp; done) | (simp; omega)) hE.size)
      exact bodyPost_ret (ret_cell_tmp rfl rfl rfl (load_two (HR.out.two (0) (0)))) rfl ⟨rfl, (by (repeat' (first | (with_reducible exact Ext.refl _) | (with_reducible assumption) | (with_reducible refine Ext.alloc ?_ _) | (with_reducible refine Ext.drew ?_) | (with_reducible refine Ext.drewN ?_ _) | (with_reducible refine Ext.setCell ?_ ?_ _) | (with_reducible refine Ext.trans ?_ (by assumption)))) <;> (first | (with_reducible assumption) | omega | (simp; done) | (simp; omega)))⟩
theorem ChanceSame_ok (n k : Nat) (hn : n < 68719476736) (hk : k ≤ 3) (N D : Nat) (hD : D = 36 ^ k) (hN : N = sw n k 0) (w : World) : Calls Try.prog 54 #[(.agg #[.int .i64 (rw n 0), .int .i64 (rw n 1), .int .i64 (rw n 2), .int .i64 (rw n 3), .int .i64 (rw n 4), .int .i64 (rw n 5)]), .int .i64 (k : Int)] w fun e w' => e = .returned (.tuple #[(.agg #[.int .i64 ((cut N D : Nat)), .int .i64 ((cutD N D : Nat))]), .bool true]) ∧ Ext w w' := by
  have hD0 : 0 < D := by rw [hD]; exact Nat.pow_pos (by omega)
  have hDb : D ≤ 2176782336 := by rw [hD]; exact pow_bd (Nat.le_refl _) (by omega)
  have hNb : N ≤ 46656 := by rw [hN]; exact sw_bd n k 0 hk
  have HS := Lib.hid (show ∀ w, Calls Try.prog 111 #[.int .u64 (n : Int), .int .u64 0, .int .i64 (k : Int)] w fun e w' => e = .returned (.int .i64 (sw n k 0 : Nat)) ∧ Ext w w' from fun w => sameWays_n n hn k hk 0 (by omega) w)
  rw [← hN] at HS
  have HP := Lib.hid (fun w => power_36 k (by omega) w)
  rw [← hD] at HP
  have HC := Lib.hid (fun w => fraction_n N D hD0 (by omega) (by omega) w)
  clear hN hD
  skip
  go_enter Try.func54, Try.ntmps54
  go_wp2_with (first | (go_at_call 73; refine (setOf_n n hn _).mono ?_; rintro e w1 ⟨rfl, hE⟩; replace HR := Lib.hid ((show Arr2 _ (w.heap.size + 1) (fun _ => 0) by first | exact HR.out | exact Arr2.new _ (fun _ => 0) _ (by first | rfl | (simp; done) | (simp; omega))).ext hE (by first | exact lR | (simp; done) | (simp; omega))); replace lR : w.heap.size + 1 < w1.heap.size := Nat.lt_of_lt_of_le (by first | exact lR | (simp; done) | (simp; omega)) hE.size; (try clear d0 d1 f0 f1); obtain ⟨⟨d0, d1⟩, f0, f1⟩ := HR.out.all; replace k0_0 : w1.cell? ⟨w.heap.size, 0, none⟩ = some (.int .i64 (rw n 0)) := (hE.cells _ _ (by first | exact l0 | (simp; done) | (simp; omega))).trans (by first | exact k0_0 | (go_simp; done)); replace k0_1 : w1.cell? ⟨w.heap.size, 1, none⟩ = some (.int .i64 (rw n 1)) := (hE.cells _ _ (by first | exact l0 | (simp; done) | (simp; omega))).trans (by first | exact k0_1 | (go_simp; done)); replace k0_2 : w1.cell? ⟨w.heap.size, 2, none⟩ = some (.int .i64 (rw n 2)) := (hE.cells _ _ (by first | exact l0 | (simp; done) | (simp; omega))).trans (by first | exact k0_2 | (go_simp; done)); replace k0_3 : w1.cell? ⟨w.heap.size, 3, none⟩ = some (.int .i64 (rw n 3)) := (hE.cells _ _ (by first | exact l0 | (simp; done) | (simp; omega))).trans (by first | exact k0_3 | (go_simp; done)); replace k0_4 : w1.cell? ⟨w.heap.size, 4, none⟩ = some (.int .i64 (rw n 4)) := (hE.cells _ _ (by first | exact l0 | (simp; done) | (simp; omega))).trans (by first | exact k0_4 | (go_simp; done)); replace k0_5 : w1.cell? ⟨w.heap.size, 5, none⟩ = some (.int .i64 (rw n 5)) := (hE.cells _ _ (by first | exact l0 | (simp; done) | (simp; omega))).trans (by first | exact k0_5 | (go_simp; done)); replace l0 : w.heap.size < w1.heap.size := Nat.lt_of_lt_of_le (by first | exact l0 | (simp; done) | (simp; omega)) hE.size) | (go_at_call 111; refine (HS.out _).mono ?_; rintro e w1 ⟨rfl, hE⟩; replace HR := Lib.hid ((show Arr2 _ (w.heap.size + 1) (fun _ => 0) by first | exact HR.out | exact Arr2.new _ (fun _ => 0) _ (by first | rfl | (simp; done) | (simp; omega))).ext hE (by first | exact lR | (simp; done) | (simp; omega))); replace lR : w.heap.size + 1 < w1.heap.size := Nat.lt_of_lt_of_le (by first | exact lR | (simp; done) | (simp; omega)) hE.size; (try clear d0 d1 f0 f1); obtain ⟨⟨d0, d1⟩, f0, f1⟩ := HR.out.all; replace k0_0 : w1.cell? ⟨w.heap.size, 0, none⟩ = some (.int .i64 (rw n 0)) := (hE.cells _ _ (by first | exact l0 | (simp; done) | (simp; omega))).trans (by first | exact k0_0 | (go_simp; done)); replace k0_1 : w1.cell? ⟨w.heap.size, 1, none⟩ = some (.int .i64 (rw n 1)) := (hE.cells _ _ (by first | exact l0 | (simp; done) | (simp; omega))).trans (by first | exact k0_1 | (go_simp; done)); replace k0_2 : w1.cell? ⟨w.heap.size, 2, none⟩ = some (.int .i64 (rw n 2)) := (hE.cells _ _ (by first | exact l0 | (simp; done) | (simp; omega))).trans (by first | exact k0_2 | (go_simp; done)); replace k0_3 : w1.cell? ⟨w.heap.size, 3, none⟩ = some (.int .i64 (rw n 3)) := (hE.cells _ _ (by first | exact l0 | (simp; done) | (simp; omega))).trans (by first | exact k0_3 | (go_simp; done)); replace k0_4 : w1.cell? ⟨w.heap.size, 4, none⟩ = some (.int .i64 (rw n 4)) := (hE.cells _ _ (by first | exact l0 | (simp; done) | (simp; omega))).trans (by first | exact k0_4 | (go_simp; done)); replace k0_5 : w1.cell? ⟨w.heap.size, 5, none⟩ = some (.int .i64 (rw n 5)) := (hE.cells _ _ (by first | exact l0 | (simp; done) | (simp; omega))).trans (by first | exact k0_5 | (go_simp; done)); replace l0 : w.heap.size < w1.heap.size := Nat.lt_of_lt_of_le (by first | exact l0 | (simp; done) | (simp; omega)) hE.size) | (go_at_call 106; refine (HP.out _).mono ?_; rintro e w' ⟨rfl, rfl⟩) | (go_at_call 103; refine (HC.out _).mono ?_; rintro e w1 ⟨rfl, hE⟩; replace HR := Lib.hid ((show Arr2 _ (w.heap.size + 1) (fun _ => 0) by first | exact HR.out | exact Arr2.new _ (fun _ => 0) _ (by first | rfl | (simp; done) | (simp; omega))).ext hE (by first | exact lR | (simp; done) | (simp; omega))); replace lR : w.heap.size + 1 < w1.heap.size := Nat.lt_of_lt_of_le (by first | exact lR | (simp; done) | (simp; omega)) hE.size; (try clear d0 d1 f0 f1); obtain ⟨⟨d0, d1⟩, f0, f1⟩ := HR.out.all; replace k0_0 : w1.cell? ⟨w.heap.size, 0, none⟩ = some (.int .i64 (rw n 0)) := (hE.cells _ _ (by first | exact l0 | (simp; done) | (simp; omega))).trans (by first | exact k0_0 | (go_simp; done)); replace k0_1 : w1.cell? ⟨w.heap.size, 1, none⟩ = some (.int .i64 (rw n 1)) := (hE.cells _ _ (by first | exact l0 | (simp; done) | (simp; omega))).trans (by first | exact k0_1 | (go_simp; done)); replace k0_2 : w1.cell? ⟨w.heap.size, 2, none⟩ = some (.int .i64 (rw n 2)) := (hE.cells _ _ (by first | exact l0 | (simp; done) | (simp; omega))).trans (by first | exact k0_2 | (go_simp; done)); replace k0_3 : w1.cell? ⟨w.heap.size, 3, none⟩ = some (.int .i64 (rw n 3)) := (hE.cells _ _ (by first | exact l0 | (simp; done) | (simp; omega))).trans (by first | exact k0_3 | (go_simp; done)); replace k0_4 : w1.cell? ⟨w.heap.size, 4, none⟩ = some (.int .i64 (rw n 4)) := (hE.cells _ _ (by first | exact l0 | (simp; done) | (simp; omega))).trans (by first | exact k0_4 | (go_simp; done)); replace k0_5 : w1.cell? ⟨w.heap.size, 5, none⟩ = some (.int .i64 (rw n 5)) := (hE.cells _ _ (by first | exact l0 | (simp; done) | (simp; omega))).trans (by first | exact k0_5 | (go_simp; done)); replace l0 : w.heap.size < w1.heap.size := Nat.lt_of_lt_of_le (by first | exact l0 | (simp; done) | (simp; omega)) hE.size))
  exact bodyPost_ret (ret_cell_tmp rfl rfl rfl (load_two (HR.out.two ((cut N D : Nat)) ((cutD N D : Nat))))) rfl ⟨rfl, (by (repeat' (first | (with_reducible exact Ext.refl _) | (with_reducible assumption) | (with_reducible refine Ext.alloc ?_ _) | (with_reducible refine Ext.drew ?_) | (with_reducible refine Ext.drewN ?_ _) | (with_reducible refine Ext.setCell ?_ ?_ _) | (with_reducible refine Ext.trans ?_ (by assumption)))) <;> (first | (with_reducible assumption) | omega | (simp; done) | (simp; omega)))⟩
end Go.Proofs.Ytencocennomehaa
