/- Ops: contracts of functions, and lemmas, for this seat. Conditions: as each states. -/
import Derived.Test.YtadnfocbfabjnaaVs
set_option linter.unusedVariables false
set_option maxRecDepth 100000
set_option maxHeartbeats 1000000
namespace Go.Proofs.Ytadnfocbfabjnaa
open Go Go.RowKit
theorem l2Xor_n (a b : Nat) (w : World) : Calls Try.prog 216 #[(.agg #[.int .i64 (rw a 0), .int .i64 (rw a 1), .int .i64 (rw a 2), .int .i64 (rw a 3), .int .i64 (rw a 4), .int .i64 (rw a 5)]), (.agg #[.int .i64 (rw b 0), .int .i64 (rw b 1), .int .i64 (rw b 2), .int .i64 (rw b 3), .int .i64 (rw b 4), .int .i64 (rw b 5)])] w fun e w' => e = .returned (.agg #[.int .i64 (rw (a ^^^ b) 0), .int .i64 (rw (a ^^^ b) 1), .int .i64 (rw (a ^^^ b) 2), .int .i64 (rw (a ^^^ b) 3), .int .i64 (rw (a ^^^ b) 4), .int .i64 (rw (a ^^^ b) 5)]) ∧ Ext w w' := by
  go_enter Try.func216, Try.ntmps216
  go_wp2
  go_loopw [5] (fun i wr => ∃ k : Nat, k ≤ 6 ∧ i = .int .i64 k ∧ Ext w wr ∧ Arr wr w.heap.size (mixG (rw (a ^^^ b)) (rw a) k) ∧ Arr wr (w.heap.size + 1) (rw b) ∧ Arr wr (w.heap.size + 2) (fun _ => 0) ∧ w.heap.size + 2 < wr.heap.size) (fun i _ => 6 - (intOf i).toNat)
  case atStart =>
    refine ⟨0, Nat.zero_le _, rfl, (by (repeat' (first | (with_reducible exact Ext.refl _) | (with_reducible assumption) | (with_reducible refine Ext.alloc ?_ _) | (with_reducible refine Ext.drew ?_) | (with_reducible refine Ext.drewN ?_ _) | (with_reducible refine Ext.setCell ?_ ?_ _) | (with_reducible refine Ext.trans ?_ (by assumption)))) <;> (first | (with_reducible assumption) | omega | (simp; done) | (simp; omega))), ?_, ?_, ?_, by simp⟩
    · exact (((Arr.new w (rw a) _ rfl).alloc _ (by simp)).alloc _ (by simp; omega)).congr fun j _ => mixG_0 _ _ j
    · exact (Arr.new _ (rw b) _ (by simp)).alloc _ (by simp)
    · exact Arr.new _ (fun _ => 0) _ (by simp)
  case round =>
    obtain ⟨k, hk, rfl, hx, ha, hb, hr, hz⟩ := hrel
    obtain ⟨wo, rfl⟩ : ∃ wo : World, wo = wr := ⟨_, rfl⟩
    have HA := Lib.hid ha
    have HB := Lib.hid hb
    have HR := Lib.hid hr
    clear ha hb hr
    by_cases hlt : k < 6
    · obtain ⟨c1, f1⟩ := HA.out k hlt
      rw [mixG_at] at c1
      obtain ⟨c2, _⟩ := HB.out k hlt
      have b0 := rw_0 a k
      have b1 := rw_63 a k
      have HS := Lib.hid (xor_row a b k)
      go_wp2
      refine wp_still 12 (by kernel_rfl) (by kernel_rfl) ?_; simp only [List.take_succ_cons, List.take_zero, List.drop_succ_cons, List.drop_zero]; (refine wpStill_step (fun K hK => ?_); go_simp; (try (go_ints; try go_simp)); first | (refine hK _ ?_; clear hK K) | (apply Exists.intro; refine ⟨?_, hK _ ?_⟩; (fail); clear hK K) | (simp only [↓IntWalk.iteOmega]; (try go_simp); (try (go_ints; try go_simp)); first | (refine hK _ ?_; clear hK K) | (apply Exists.intro; refine ⟨?_, hK _ ?_⟩; (fail); clear hK K))); (refine wpStill_step (fun K hK => ?_); go_simp; (try (go_ints; try go_simp)); first | (refine hK _ ?_; clear hK K) | (apply Exists.intro; refine ⟨?_, hK _ ?_⟩; (fail); clear hK K) | (simp only [↓IntWalk.iteOmega]; (try go_simp); (try (go_ints; try go_simp)); first | (refine hK _ ?_; clear hK K) | (apply Exists.intro; refine ⟨?_, hK _ ?_⟩; (fail); clear hK K))); (refine wpStill_step (fun K hK => ?_); go_simp; (try (go_ints; try go_simp)); first | (refine hK _ ?_; clear hK K) | (apply Exists.intro; refine ⟨?_, hK _ ?_⟩; (fail); clear hK K) | (simp only [↓IntWalk.iteOmega]; (try go_simp); (try (go_ints; try go_simp)); first | (refine hK _ ?_; clear hK K) | (apply Exists.intro; refine ⟨?_, hK _ ?_⟩; (fail); clear hK K))); (refine wpStill_step (fun K hK => ?_); go_simp; (try (go_ints; try go_simp)); first | (refine hK _ ?_; clear hK K) | (apply Exists.intro; refine ⟨?_, hK _ ?_⟩; (fail); clear hK K) | (simp only [↓IntWalk.iteOmega]; (try go_simp); (try (go_ints; try go_simp)); first | (refine hK _ ?_; clear hK K) | (apply Exists.intro; refine ⟨?_, hK _ ?_⟩; (fail); clear hK K))); (refine wpStill_step (fun K hK => ?_); go_simp; (try (go_ints; try go_simp)); first | (refine hK _ ?_; clear hK K) | (apply Exists.intro; refine ⟨?_, hK _ ?_⟩; (fail); clear hK K) | (simp only [↓IntWalk.iteOmega]; (try go_simp); (try (go_ints; try go_simp)); first | (refine hK _ ?_; clear hK K) | (apply Exists.intro; refine ⟨?_, hK _ ?_⟩; (fail); clear hK K))); (refine wpStill_step (fun K hK => ?_); go_simp; (try (go_ints; try go_simp)); first | (refine hK _ ?_; clear hK K) | (apply Exists.intro; refine ⟨?_, hK _ ?_⟩; (fail); clear hK K) | (simp only [↓IntWalk.iteOmega]; (try go_simp); (try (go_ints; try go_simp)); first | (refine hK _ ?_; clear hK K) | (apply Exists.intro; refine ⟨?_, hK _ ?_⟩; (fail); clear hK K))); (refine wpStill_step (fun K hK => ?_); go_simp; (try (go_ints; try go_simp)); first | (refine hK _ ?_; clear hK K) | (apply Exists.intro; refine ⟨?_, hK _ ?_⟩; (fail); clear hK K) | (simp only [↓IntWalk.iteOmega]; (try go_simp); (try (go_ints; try go_simp)); first | (refine hK _ ?_; clear hK K) | (apply Exists.intro; refine ⟨?_, hK _ ?_⟩; (fail); clear hK K))); (refine wpStill_step (fun K hK => ?_); go_simp; (try (go_ints; try go_simp)); first | (refine hK _ ?_; clear hK K) | (apply Exists.intro; refine ⟨?_, hK _ ?_⟩; (fail); clear hK K) | (simp only [↓IntWalk.iteOmega]; (try go_simp); (try (go_ints; try go_simp)); first | (refine hK _ ?_; clear hK K) | (apply Exists.intro; refine ⟨?_, hK _ ?_⟩; (fail); clear hK K))); (refine wpStill_step (fun K hK => ?_); go_simp; (try (go_ints; try go_simp)); first | (refine hK _ ?_; clear hK K) | (apply Exists.intro; refine ⟨?_, hK _ ?_⟩; (fail); clear hK K) | (simp only [↓IntWalk.iteOmega]; (try go_simp); (try (go_ints; try go_simp)); first | (refine hK _ ?_; clear hK K) | (apply Exists.intro; refine ⟨?_, hK _ ?_⟩; (fail); clear hK K))); (refine wpStill_step (fun K hK => ?_); go_simp; (try (go_ints; try go_simp)); first | (refine hK _ ?_; clear hK K) | (apply Exists.intro; refine ⟨?_, hK _ ?_⟩; (fail); clear hK K) | (simp only [↓IntWalk.iteOmega]; (try go_simp); (try (go_ints; try go_simp)); first | (refine hK _ ?_; clear hK K) | (apply Exists.intro; refine ⟨?_, hK _ ?_⟩; (fail); clear hK K))); (refine wpStill_step (fun K hK => ?_); go_simp; (try (go_ints; try go_simp)); first | (refine hK _ ?_; clear hK K) | (apply Exists.intro; refine ⟨?_, hK _ ?_⟩; (fail); clear hK K) | (simp only [↓IntWalk.iteOmega]; (try go_simp); (try (go_ints; try go_simp)); first | (refine hK _ ?_; clear hK K) | (apply Exists.intro; refine ⟨?_, hK _ ?_⟩; (fail); clear hK K))); (refine wpStill_step (fun K hK => ?_); go_simp; (try (go_ints; try go_simp)); first | (refine hK _ ?_; clear hK K) | (apply Exists.intro; refine ⟨?_, hK _ ?_⟩; (fail); clear hK K) | (simp only [↓IntWalk.iteOmega]; (try go_simp); (try (go_ints; try go_simp)); first | (refine hK _ ?_; clear hK K) | (apply Exists.intro; refine ⟨?_, hK _ ?_⟩; (fail); clear hK K))); refine wpStill_nil ?_
      go_wp2
      refine ⟨⟨k + 1, by omega, by go_num, (by (repeat' (first | (with_reducible exact Ext.refl _) | (with_reducible assumption) | (with_reducible refine Ext.alloc ?_ _) | (with_reducible refine Ext.drew ?_) | (with_reducible refine Ext.drewN ?_ _) | (with_reducible refine Ext.setCell ?_ ?_ _) | (with_reducible refine Ext.trans ?_ (by assumption)))) <;> (first | (with_reducible assumption) | omega | (simp; done) | (simp; omega))), ?_, ?_, ?_, by simp; omega⟩, by simp [intOf]; omega⟩
      · exact ((HA.out).set (p := k) hlt _).congr (fun j hj => mixG_step _ _ k j _ HS.out)
      · exact (HB.out).far (by simp; try omega) _
      · exact (HR.out).far (by simp; try omega) _
    · obtain rfl : k = 6 := by omega
      obtain ⟨⟨c0, c1, c2, c3, c4, c5⟩, _⟩ := (HA.out.congr (mixG_6 _ _)).all
      obtain ⟨⟨d0, d1, d2, d3, d4, d5⟩, f0, f1, f2, f3, f4, f5⟩ := HR.out.all
      go_wp2
      exact bodyPost_ret (ret_cell rfl rfl (load_sheet (HR.out.six (rw (a ^^^ b))))) rfl ⟨rfl, (by (repeat' (first | (with_reducible exact Ext.refl _) | (with_reducible assumption) | (with_reducible refine Ext.alloc ?_ _) | (with_reducible refine Ext.drew ?_) | (with_reducible refine Ext.drewN ?_ _) | (with_reducible refine Ext.setCell ?_ ?_ _) | (with_reducible refine Ext.trans ?_ (by assumption)))) <;> (first | (with_reducible assumption) | omega | (simp; done) | (simp; omega)))⟩
theorem l2Or_n (a b : Nat) (w : World) : Calls Try.prog 190 #[(.agg #[.int .i64 (rw a 0), .int .i64 (rw a 1), .int .i64 (rw a 2), .int .i64 (rw a 3), .int .i64 (rw a 4), .int .i64 (rw a 5)]), (.agg #[.int .i64 (rw b 0), .int .i64 (rw b 1), .int .i64 (rw b 2), .int .i64 (rw b 3), .int .i64 (rw b 4), .int .i64 (rw b 5)])] w fun e w' => e = .returned (.agg #[.int .i64 (rw (a ||| b) 0), .int .i64 (rw (a ||| b) 1), .int .i64 (rw (a ||| b) 2), .int .i64 (rw (a ||| b) 3), .int .i64 (rw (a ||| b) 4), .int .i64 (rw (a ||| b) 5)]) ∧ Ext w w' := by
  go_enter Try.func190, Try.ntmps190
  go_wp2
  go_loopw [5] (fun i wr => ∃ k : Nat, k ≤ 6 ∧ i = .int .i64 k ∧ Ext w wr ∧ Arr wr w.heap.size (mixG (rw (a ||| b)) (rw a) k) ∧ Arr wr (w.heap.size + 1) (rw b) ∧ Arr wr (w.heap.size + 2) (fun _ => 0) ∧ w.heap.size + 2 < wr.heap.size) (fun i _ => 6 - (intOf i).toNat)
  case atStart =>
    refine ⟨0, Nat.zero_le _, rfl, (by (repeat' (first | (with_reducible exact Ext.refl _) | (with_reducible assumption) | (with_reducible refine Ext.alloc ?_ _) | (with_reducible refine Ext.drew ?_) | (with_reducible refine Ext.drewN ?_ _) | (with_reducible refine Ext.setCell ?_ ?_ _) | (with_reducible refine Ext.trans ?_ (by assumption)))) <;> (first | (with_reducible assumption) | omega | (simp; done) | (simp; omega))), ?_, ?_, ?_, by simp⟩
    · exact (((Arr.new w (rw a) _ rfl).alloc _ (by simp)).alloc _ (by simp; omega)).congr fun j _ => mixG_0 _ _ j
    · exact (Arr.new _ (rw b) _ (by simp)).alloc _ (by simp)
    · exact Arr.new _ (fun _ => 0) _ (by simp)
  case round =>
    obtain ⟨k, hk, rfl, hx, ha, hb, hr, hz⟩ := hrel
    obtain ⟨wo, rfl⟩ : ∃ wo : World, wo = wr := ⟨_, rfl⟩
    have HA := Lib.hid ha
    have HB := Lib.hid hb
    have HR := Lib.hid hr
    clear ha hb hr
    by_cases hlt : k < 6
    · obtain ⟨c1, f1⟩ := HA.out k hlt
      rw [mixG_at] at c1
      obtain ⟨c2, _⟩ := HB.out k hlt
      have b0 := rw_0 a k
      have b1 := rw_63 a k
      have HS := Lib.hid (or_row a b k)
      go_wp2
      refine wp_still 12 (by kernel_rfl) (by kernel_rfl) ?_; simp only [List.take_succ_cons, List.take_zero, List.drop_succ_cons, List.drop_zero]; (refine wpStill_step (fun K hK => ?_); go_simp; (try (go_ints; try go_simp)); first | (refine hK _ ?_; clear hK K) | (apply Exists.intro; refine ⟨?_, hK _ ?_⟩; (fail); clear hK K) | (simp only [↓IntWalk.iteOmega]; (try go_simp); (try (go_ints; try go_simp)); first | (refine hK _ ?_; clear hK K) | (apply Exists.intro; refine ⟨?_, hK _ ?_⟩; (fail); clear hK K))); (refine wpStill_step (fun K hK => ?_); go_simp; (try (go_ints; try go_simp)); first | (refine hK _ ?_; clear hK K) | (apply Exists.intro; refine ⟨?_, hK _ ?_⟩; (fail); clear hK K) | (simp only [↓IntWalk.iteOmega]; (try go_simp); (try (go_ints; try go_simp)); first | (refine hK _ ?_; clear hK K) | (apply Exists.intro; refine ⟨?_, hK _ ?_⟩; (fail); clear hK K))); (refine wpStill_step (fun K hK => ?_); go_simp; (try (go_ints; try go_simp)); first | (refine hK _ ?_; clear hK K) | (apply Exists.intro; refine ⟨?_, hK _ ?_⟩; (fail); clear hK K) | (simp only [↓IntWalk.iteOmega]; (try go_simp); (try (go_ints; try go_simp)); first | (refine hK _ ?_; clear hK K) | (apply Exists.intro; refine ⟨?_, hK _ ?_⟩; (fail); clear hK K))); (refine wpStill_step (fun K hK => ?_); go_simp; (try (go_ints; try go_simp)); first | (refine hK _ ?_; clear hK K) | (apply Exists.intro; refine ⟨?_, hK _ ?_⟩; (fail); clear hK K) | (simp only [↓IntWalk.iteOmega]; (try go_simp); (try (go_ints; try go_simp)); first | (refine hK _ ?_; clear hK K) | (apply Exists.intro; refine ⟨?_, hK _ ?_⟩; (fail); clear hK K))); (refine wpStill_step (fun K hK => ?_); go_simp; (try (go_ints; try go_simp)); first | (refine hK _ ?_; clear hK K) | (apply Exists.intro; refine ⟨?_, hK _ ?_⟩; (fail); clear hK K) | (simp only [↓IntWalk.iteOmega]; (try go_simp); (try (go_ints; try go_simp)); first | (refine hK _ ?_; clear hK K) | (apply Exists.intro; refine ⟨?_, hK _ ?_⟩; (fail); clear hK K))); (refine wpStill_step (fun K hK => ?_); go_simp; (try (go_ints; try go_simp)); first | (refine hK _ ?_; clear hK K) | (apply Exists.intro; refine ⟨?_, hK _ ?_⟩; (fail); clear hK K) | (simp only [↓IntWalk.iteOmega]; (try go_simp); (try (go_ints; try go_simp)); first | (refine hK _ ?_; clear hK K) | (apply Exists.intro; refine ⟨?_, hK _ ?_⟩; (fail); clear hK K))); (refine wpStill_step (fun K hK => ?_); go_simp; (try (go_ints; try go_simp)); first | (refine hK _ ?_; clear hK K) | (apply Exists.intro; refine ⟨?_, hK _ ?_⟩; (fail); clear hK K) | (simp only [↓IntWalk.iteOmega]; (try go_simp); (try (go_ints; try go_simp)); first | (refine hK _ ?_; clear hK K) | (apply Exists.intro; refine ⟨?_, hK _ ?_⟩; (fail); clear hK K))); (refine wpStill_step (fun K hK => ?_); go_simp; (try (go_ints; try go_simp)); first | (refine hK _ ?_; clear hK K) | (apply Exists.intro; refine ⟨?_, hK _ ?_⟩; (fail); clear hK K) | (simp only [↓IntWalk.iteOmega]; (try go_simp); (try (go_ints; try go_simp)); first | (refine hK _ ?_; clear hK K) | (apply Exists.intro; refine ⟨?_, hK _ ?_⟩; (fail); clear hK K))); (refine wpStill_step (fun K hK => ?_); go_simp; (try (go_ints; try go_simp)); first | (refine hK _ ?_; clear hK K) | (apply Exists.intro; refine ⟨?_, hK _ ?_⟩; (fail); clear hK K) | (simp only [↓IntWalk.iteOmega]; (try go_simp); (try (go_ints; try go_simp)); first | (refine hK _ ?_; clear hK K) | (apply Exists.intro; refine ⟨?_, hK _ ?_⟩; (fail); clear hK K))); (refine wpStill_step (fun K hK => ?_); go_simp; (try (go_ints; try go_simp)); first | (refine hK _ ?_; clear hK K) | (apply Exists.intro; refine ⟨?_, hK _ ?_⟩; (fail); clear hK K) | (simp only [↓IntWalk.iteOmega]; (try go_simp); (try (go_ints; try go_simp)); first | (refine hK _ ?_; clear hK K) | (apply Exists.intro; refine ⟨?_, hK _ ?_⟩; (fail); clear hK K))); (refine wpStill_step (fun K hK => ?_); go_simp; (try (go_ints; try go_simp)); first | (refine hK _ ?_; clear hK K) | (apply Exists.intro; refine ⟨?_, hK _ ?_⟩; (fail); clear hK K) | (simp only [↓IntWalk.iteOmega]; (try go_simp); (try (go_ints; try go_simp)); first | (refine hK _ ?_; clear hK K) | (apply Exists.intro; refine ⟨?_, hK _ ?_⟩; (fail); clear hK K))); (refine wpStill_step (fun K hK => ?_); go_simp; (try (go_ints; try go_simp)); first | (refine hK _ ?_; clear hK K) | (apply Exists.intro; refine ⟨?_, hK _ ?_⟩; (fail); clear hK K) | (simp only [↓IntWalk.iteOmega]; (try go_simp); (try (go_ints; try go_simp)); first | (refine hK _ ?_; clear hK K) | (apply Exists.intro; refine ⟨?_, hK _ ?_⟩; (fail); clear hK K))); refine wpStill_nil ?_
      go_wp2
      refine ⟨⟨k + 1, by omega, by go_num, (by (repeat' (first | (with_reducible exact Ext.refl _) | (with_reducible assumption) | (with_reducible refine Ext.alloc ?_ _) | (with_reducible refine Ext.drew ?_) | (with_reducible refine Ext.drewN ?_ _) | (with_reducible refine Ext.setCell ?_ ?_ _) | (with_reducible refine Ext.trans ?_ (by assumption)))) <;> (first | (with_reducible assumption) | omega | (simp; done) | (simp; omega))), ?_, ?_, ?_, by simp; omega⟩, by simp [intOf]; omega⟩
      · exact ((HA.out).set (p := k) hlt _).congr (fun j hj => mixG_step _ _ k j _ HS.out)
      · exact (HB.out).far (by simp; try omega) _
      · exact (HR.out).far (by simp; try omega) _
    · obtain rfl : k = 6 := by omega
      obtain ⟨⟨c0, c1, c2, c3, c4, c5⟩, _⟩ := (HA.out.congr (mixG_6 _ _)).all
      obtain ⟨⟨d0, d1, d2, d3, d4, d5⟩, f0, f1, f2, f3, f4, f5⟩ := HR.out.all
      go_wp2
      exact bodyPost_ret (ret_cell rfl rfl (load_sheet (HR.out.six (rw (a ||| b))))) rfl ⟨rfl, (by (repeat' (first | (with_reducible exact Ext.refl _) | (with_reducible assumption) | (with_reducible refine Ext.alloc ?_ _) | (with_reducible refine Ext.drew ?_) | (with_reducible refine Ext.drewN ?_ _) | (with_reducible refine Ext.setCell ?_ ?_ _) | (with_reducible refine Ext.trans ?_ (by assumption)))) <;> (first | (with_reducible assumption) | omega | (simp; done) | (simp; omega)))⟩
theorem l2And_n (a b : Nat) (w : World) : Calls Try.prog 155 #[(.agg #[.int .i64 (rw a 0), .int .i64 (rw a 1), .int .i64 (rw a 2), .int .i64 (rw a 3), .int .i64 (rw a 4), .int .i64 (rw a 5)]), (.agg #[.int .i64 (rw b 0), .int .i64 (rw b 1), .int .i64 (rw b 2), .int .i64 (rw b 3), .int .i64 (rw b 4), .int .i64 (rw b 5)])] w fun e w' => e = .returned (.agg #[.int .i64 (rw (a &&& b) 0), .int .i64 (rw (a &&& b) 1), .int .i64 (rw (a &&& b) 2), .int .i64 (rw (a &&& b) 3), .int .i64 (rw (a &&& b) 4), .int .i64 (rw (a &&& b) 5)]) ∧ Ext w w' := by
  go_enter Try.func155, Try.ntmps155
  go_wp2
  go_loopw [5] (fun i wr => ∃ k : Nat, k ≤ 6 ∧ i = .int .i64 k ∧ Ext w wr ∧ Arr wr w.heap.size (mixG (rw (a &&& b)) (rw a) k) ∧ Arr wr (w.heap.size + 1) (rw b) ∧ Arr wr (w.heap.size + 2) (fun _ => 0) ∧ w.heap.size + 2 < wr.heap.size) (fun i _ => 6 - (intOf i).toNat)
  case atStart =>
    refine ⟨0, Nat.zero_le _, rfl, (by (repeat' (first | (with_reducible exact Ext.refl _) | (with_reducible assumption) | (with_reducible refine Ext.alloc ?_ _) | (with_reducible refine Ext.drew ?_) | (with_reducible refine Ext.drewN ?_ _) | (with_reducible refine Ext.setCell ?_ ?_ _) | (with_reducible refine Ext.trans ?_ (by assumption)))) <;> (first | (with_reducible assumption) | omega | (simp; done) | (simp; omega))), ?_, ?_, ?_, by simp⟩
    · exact (((Arr.new w (rw a) _ rfl).alloc _ (by simp)).alloc _ (by simp; omega)).congr fun j _ => mixG_0 _ _ j
    · exact (Arr.new _ (rw b) _ (by simp)).alloc _ (by simp)
    · exact Arr.new _ (fun _ => 0) _ (by simp)
  case round =>
    obtain ⟨k, hk, rfl, hx, ha, hb, hr, hz⟩ := hrel
    obtain ⟨wo, rfl⟩ : ∃ wo : World, wo = wr := ⟨_, rfl⟩
    have HA := Lib.hid ha
    have HB := Lib.hid hb
    have HR := Lib.hid hr
    clear ha hb hr
    by_cases hlt : k < 6
    · obtain ⟨c1, f1⟩ := HA.out k hlt
      rw [mixG_at] at c1
      obtain ⟨c2, _⟩ := HB.out k hlt
      have b0 := rw_0 a k
      have b1 := rw_63 a k
      have HS := Lib.hid (and_row a b k)
      go_wp2
      refine wp_still 12 (by kernel_rfl) (by kernel_rfl) ?_; simp only [List.take_succ_cons, List.take_zero, List.drop_succ_cons, List.drop_zero]; (refine wpStill_step (fun K hK => ?_); go_simp; (try (go_ints; try go_simp)); first | (refine hK _ ?_; clear hK K) | (apply Exists.intro; refine ⟨?_, hK _ ?_⟩; (fail); clear hK K) | (simp only [↓IntWalk.iteOmega]; (try go_simp); (try (go_ints; try go_simp)); first | (refine hK _ ?_; clear hK K) | (apply Exists.intro; refine ⟨?_, hK _ ?_⟩; (fail); clear hK K))); (refine wpStill_step (fun K hK => ?_); go_simp; (try (go_ints; try go_simp)); first | (refine hK _ ?_; clear hK K) | (apply Exists.intro; refine ⟨?_, hK _ ?_⟩; (fail); clear hK K) | (simp only [↓IntWalk.iteOmega]; (try go_simp); (try (go_ints; try go_simp)); first | (refine hK _ ?_; clear hK K) | (apply Exists.intro; refine ⟨?_, hK _ ?_⟩; (fail); clear hK K))); (refine wpStill_step (fun K hK => ?_); go_simp; (try (go_ints; try go_simp)); first | (refine hK _ ?_; clear hK K) | (apply Exists.intro; refine ⟨?_, hK _ ?_⟩; (fail); clear hK K) | (simp only [↓IntWalk.iteOmega]; (try go_simp); (try (go_ints; try go_simp)); first | (refine hK _ ?_; clear hK K) | (apply Exists.intro; refine ⟨?_, hK _ ?_⟩; (fail); clear hK K))); (refine wpStill_step (fun K hK => ?_); go_simp; (try (go_ints; try go_simp)); first | (refine hK _ ?_; clear hK K) | (apply Exists.intro; refine ⟨?_, hK _ ?_⟩; (fail); clear hK K) | (simp only [↓IntWalk.iteOmega]; (try go_simp); (try (go_ints; try go_simp)); first | (refine hK _ ?_; clear hK K) | (apply Exists.intro; refine ⟨?_, hK _ ?_⟩; (fail); clear hK K))); (refine wpStill_step (fun K hK => ?_); go_simp; (try (go_ints; try go_simp)); first | (refine hK _ ?_; clear hK K) | (apply Exists.intro; refine ⟨?_, hK _ ?_⟩; (fail); clear hK K) | (simp only [↓IntWalk.iteOmega]; (try go_simp); (try (go_ints; try go_simp)); first | (refine hK _ ?_; clear hK K) | (apply Exists.intro; refine ⟨?_, hK _ ?_⟩; (fail); clear hK K))); (refine wpStill_step (fun K hK => ?_); go_simp; (try (go_ints; try go_simp)); first | (refine hK _ ?_; clear hK K) | (apply Exists.intro; refine ⟨?_, hK _ ?_⟩; (fail); clear hK K) | (simp only [↓IntWalk.iteOmega]; (try go_simp); (try (go_ints; try go_simp)); first | (refine hK _ ?_; clear hK K) | (apply Exists.intro; refine ⟨?_, hK _ ?_⟩; (fail); clear hK K))); (refine wpStill_step (fun K hK => ?_); go_simp; (try (go_ints; try go_simp)); first | (refine hK _ ?_; clear hK K) | (apply Exists.intro; refine ⟨?_, hK _ ?_⟩; (fail); clear hK K) | (simp only [↓IntWalk.iteOmega]; (try go_simp); (try (go_ints; try go_simp)); first | (refine hK _ ?_; clear hK K) | (apply Exists.intro; refine ⟨?_, hK _ ?_⟩; (fail); clear hK K))); (refine wpStill_step (fun K hK => ?_); go_simp; (try (go_ints; try go_simp)); first | (refine hK _ ?_; clear hK K) | (apply Exists.intro; refine ⟨?_, hK _ ?_⟩; (fail); clear hK K) | (simp only [↓IntWalk.iteOmega]; (try go_simp); (try (go_ints; try go_simp)); first | (refine hK _ ?_; clear hK K) | (apply Exists.intro; refine ⟨?_, hK _ ?_⟩; (fail); clear hK K))); (refine wpStill_step (fun K hK => ?_); go_simp; (try (go_ints; try go_simp)); first | (refine hK _ ?_; clear hK K) | (apply Exists.intro; refine ⟨?_, hK _ ?_⟩; (fail); clear hK K) | (simp only [↓IntWalk.iteOmega]; (try go_simp); (try (go_ints; try go_simp)); first | (refine hK _ ?_; clear hK K) | (apply Exists.intro; refine ⟨?_, hK _ ?_⟩; (fail); clear hK K))); (refine wpStill_step (fun K hK => ?_); go_simp; (try (go_ints; try go_simp)); first | (refine hK _ ?_; clear hK K) | (apply Exists.intro; refine ⟨?_, hK _ ?_⟩; (fail); clear hK K) | (simp only [↓IntWalk.iteOmega]; (try go_simp); (try (go_ints; try go_simp)); first | (refine hK _ ?_; clear hK K) | (apply Exists.intro; refine ⟨?_, hK _ ?_⟩; (fail); clear hK K))); (refine wpStill_step (fun K hK => ?_); go_simp; (try (go_ints; try go_simp)); first | (refine hK _ ?_; clear hK K) | (apply Exists.intro; refine ⟨?_, hK _ ?_⟩; (fail); clear hK K) | (simp only [↓IntWalk.iteOmega]; (try go_simp); (try (go_ints; try go_simp)); first | (refine hK _ ?_; clear hK K) | (apply Exists.intro; refine ⟨?_, hK _ ?_⟩; (fail); clear hK K))); (refine wpStill_step (fun K hK => ?_); go_simp; (try (go_ints; try go_simp)); first | (refine hK _ ?_; clear hK K) | (apply Exists.intro; refine ⟨?_, hK _ ?_⟩; (fail); clear hK K) | (simp only [↓IntWalk.iteOmega]; (try go_simp); (try (go_ints; try go_simp)); first | (refine hK _ ?_; clear hK K) | (apply Exists.intro; refine ⟨?_, hK _ ?_⟩; (fail); clear hK K))); refine wpStill_nil ?_
      go_wp2
      refine ⟨⟨k + 1, by omega, by go_num, (by (repeat' (first | (with_reducible exact Ext.refl _) | (with_reducible assumption) | (with_reducible refine Ext.alloc ?_ _) | (with_reducible refine Ext.drew ?_) | (with_reducible refine Ext.drewN ?_ _) | (with_reducible refine Ext.setCell ?_ ?_ _) | (with_reducible refine Ext.trans ?_ (by assumption)))) <;> (first | (with_reducible assumption) | omega | (simp; done) | (simp; omega))), ?_, ?_, ?_, by simp; omega⟩, by simp [intOf]; omega⟩
      · exact ((HA.out).set (p := k) hlt _).congr (fun j hj => mixG_step _ _ k j _ HS.out)
      · exact (HB.out).far (by simp; try omega) _
      · exact (HR.out).far (by simp; try omega) _
    · obtain rfl : k = 6 := by omega
      obtain ⟨⟨c0, c1, c2, c3, c4, c5⟩, _⟩ := (HA.out.congr (mixG_6 _ _)).all
      obtain ⟨⟨d0, d1, d2, d3, d4, d5⟩, f0, f1, f2, f3, f4, f5⟩ := HR.out.all
      go_wp2
      exact bodyPost_ret (ret_cell rfl rfl (load_sheet (HR.out.six (rw (a &&& b))))) rfl ⟨rfl, (by (repeat' (first | (with_reducible exact Ext.refl _) | (with_reducible assumption) | (with_reducible refine Ext.alloc ?_ _) | (with_reducible refine Ext.drew ?_) | (with_reducible refine Ext.drewN ?_ _) | (with_reducible refine Ext.setCell ?_ ?_ _) | (with_reducible refine Ext.trans ?_ (by assumption)))) <;> (first | (with_reducible assumption) | omega | (simp; done) | (simp; omega)))⟩
theorem l2Not_n (a : Nat) (w : World) : Calls Try.prog 143 #[(.agg #[.int .i64 (rw a 0), .int .i64 (rw a 1), .int .i64 (rw a 2), .int .i64 (rw a 3), .int .i64 (rw a 4), .int .i64 (rw a 5)])] w fun e w' => e = .returned (.agg #[.int .i64 (rw (cmp a) 0), .int .i64 (rw (cmp a) 1), .int .i64 (rw (cmp a) 2), .int .i64 (rw (cmp a) 3), .int .i64 (rw (cmp a) 4), .int .i64 (rw (cmp a) 5)]) ∧ Ext w w' := by
  go_enter Try.func143, Try.ntmps143
  go_wp2
  go_loopw [3] (fun i wr => ∃ k : Nat, k ≤ 6 ∧ i = .int .i64 k ∧ Ext w wr ∧ Arr wr w.heap.size (mixG (rw (cmp a)) (rw a) k) ∧ Arr wr (w.heap.size + 1) (fun _ => 0) ∧ w.heap.size + 1 < wr.heap.size) (fun i _ => 6 - (intOf i).toNat)
  case atStart =>
    refine ⟨0, Nat.zero_le _, rfl, (by (repeat' (first | (with_reducible exact Ext.refl _) | (with_reducible assumption) | (with_reducible refine Ext.alloc ?_ _) | (with_reducible refine Ext.drew ?_) | (with_reducible refine Ext.drewN ?_ _) | (with_reducible refine Ext.setCell ?_ ?_ _) | (with_reducible refine Ext.trans ?_ (by assumption)))) <;> (first | (with_reducible assumption) | omega | (simp; done) | (simp; omega))), ?_, ?_, by simp⟩
    · exact ((Arr.new w (rw a) _ rfl).alloc _ (by simp)).congr fun j _ => mixG_0 _ _ j
    · exact Arr.new _ (fun _ => 0) _ (by simp)
  case round =>
    obtain ⟨k, hk, rfl, hx, ha, hr, hz⟩ := hrel
    obtain ⟨wo, rfl⟩ : ∃ wo : World, wo = wr := ⟨_, rfl⟩
    have HA := Lib.hid ha
    have HR := Lib.hid hr
    clear ha hr
    by_cases hlt : k < 6
    · obtain ⟨c1, f1⟩ := HA.out k hlt
      rw [mixG_at] at c1
      have b0 := rw_0 a k
      have b1 := rw_63 a k
      have HS := Lib.hid (not_row a k hlt)
      go_wp2
      refine ⟨⟨k + 1, by omega, by go_num, (by (repeat' (first | (with_reducible exact Ext.refl _) | (with_reducible assumption) | (with_reducible refine Ext.alloc ?_ _) | (with_reducible refine Ext.drew ?_) | (with_reducible refine Ext.drewN ?_ _) | (with_reducible refine Ext.setCell ?_ ?_ _) | (with_reducible refine Ext.trans ?_ (by assumption)))) <;> (first | (with_reducible assumption) | omega | (simp; done) | (simp; omega))), ?_, ?_, by simp; omega⟩, by simp [intOf]; omega⟩
      · exact ((HA.out).set (p := k) hlt _).congr (fun j hj => mixG_step _ _ k j _ HS.out)
      · exact (HR.out).far (by simp; try omega) _
    · obtain rfl : k = 6 := by omega
      obtain ⟨⟨c0, c1, c2, c3, c4, c5⟩, _⟩ := (HA.out.congr (mixG_6 _ _)).all
      obtain ⟨⟨d0, d1, d2, d3, d4, d5⟩, f0, f1, f2, f3, f4, f5⟩ := HR.out.all
      go_wp2
      exact bodyPost_ret (ret_cell rfl rfl (load_sheet (HR.out.six (rw (cmp a))))) rfl ⟨rfl, (by (repeat' (first | (with_reducible exact Ext.refl _) | (with_reducible assumption) | (with_reducible refine Ext.alloc ?_ _) | (with_reducible refine Ext.drew ?_) | (with_reducible refine Ext.drewN ?_ _) | (with_reducible refine Ext.setCell ?_ ?_ _) | (with_reducible refine Ext.trans ?_ (by assumption)))) <;> (first | (with_reducible assumption) | omega | (simp; done) | (simp; omega)))⟩
theorem l2At_n (n x y : Nat) (hx : x < 6) (hy : y < 6) (w : World) : Calls Try.prog 207 #[(.agg #[.int .i64 (rw n 0), .int .i64 (rw n 1), .int .i64 (rw n 2), .int .i64 (rw n 3), .int .i64 (rw n 4), .int .i64 (rw n 5)]), (.agg #[.int .i64 ((x : Int)), .int .i64 ((y : Int))])] w fun e w' => e = .returned (.agg #[.int .i64 (rw (sh n x y) 0), .int .i64 (rw (sh n x y) 1), .int .i64 (rw (sh n x y) 2), .int .i64 (rw (sh n x y) 3), .int .i64 (rw (sh n x y) 4), .int .i64 (rw (sh n x y) 5)]) ∧ Ext w w' := by
  have E := Lib.hid (show m6 (x : Int) = x by unfold m6; omega)
  have G := Lib.hid (show m6 (y : Int) = y by unfold m6; omega)
  have HC := Lib.hid (fun w => l2Shift_n n x y w)
  rw [E.out, G.out] at HC
  skip
  go_enter Try.func207, Try.ntmps207
  go_wp2_with (go_at_call 112; refine (HC.out _).mono ?_; rintro e w1 ⟨rfl, hE⟩; replace HR := Lib.hid ((show Arr _ (w.heap.size + 2) (fun _ => 0) by first | exact HR.out | exact Arr.new _ (fun _ => 0) _ (by first | rfl | (simp; done) | (simp; omega))).ext hE (by first | exact lR | (simp; done) | (simp; omega))); replace lR : w.heap.size + 2 < w1.heap.size := Nat.lt_of_lt_of_le (by first | exact lR | (simp; done) | (simp; omega)) hE.size; (try clear d0 d1 d2 d3 d4 d5 f0 f1 f2 f3 f4 f5); obtain ⟨⟨d0, d1, d2, d3, d4, d5⟩, f0, f1, f2, f3, f4, f5⟩ := HR.out.all; replace k0_0 : w1.cell? ⟨w.heap.size, 0, none⟩ = some (.int .i64 (rw n 0)) := (hE.cells _ _ (by first | exact l0 | (simp; done) | (simp; omega))).trans (by first | exact k0_0 | (go_simp; done)); replace k0_1 : w1.cell? ⟨w.heap.size, 1, none⟩ = some (.int .i64 (rw n 1)) := (hE.cells _ _ (by first | exact l0 | (simp; done) | (simp; omega))).trans (by first | exact k0_1 | (go_simp; done)); replace k0_2 : w1.cell? ⟨w.heap.size, 2, none⟩ = some (.int .i64 (rw n 2)) := (hE.cells _ _ (by first | exact l0 | (simp; done) | (simp; omega))).trans (by first | exact k0_2 | (go_simp; done)); replace k0_3 : w1.cell? ⟨w.heap.size, 3, none⟩ = some (.int .i64 (rw n 3)) := (hE.cells _ _ (by first | exact l0 | (simp; done) | (simp; omega))).trans (by first | exact k0_3 | (go_simp; done)); replace k0_4 : w1.cell? ⟨w.heap.size, 4, none⟩ = some (.int .i64 (rw n 4)) := (hE.cells _ _ (by first | exact l0 | (simp; done) | (simp; omega))).trans (by first | exact k0_4 | (go_simp; done)); replace k0_5 : w1.cell? ⟨w.heap.size, 5, none⟩ = some (.int .i64 (rw n 5)) := (hE.cells _ _ (by first | exact l0 | (simp; done) | (simp; omega))).trans (by first | exact k0_5 | (go_simp; done)); replace k1_0 : w1.cell? ⟨w.heap.size + 1, 0, none⟩ = some (.int .i64 (x)) := (hE.cells _ _ (by first | exact l1 | (simp; done) | (simp; omega))).trans (by first | exact k1_0 | (go_simp; done)); replace k1_1 : w1.cell? ⟨w.heap.size + 1, 1, none⟩ = some (.int .i64 (y)) := (hE.cells _ _ (by first | exact l1 | (simp; done) | (simp; omega))).trans (by first | exact k1_1 | (go_simp; done)); replace l0 : w.heap.size < w1.heap.size := Nat.lt_of_lt_of_le (by first | exact l0 | (simp; done) | (simp; omega)) hE.size; replace l1 : w.heap.size + 1 < w1.heap.size := Nat.lt_of_lt_of_le (by first | exact l1 | (simp; done) | (simp; omega)) hE.size)
  exact bodyPost_ret (ret_cell rfl rfl (load_sheet (HR.out.six (rw (sh n x y))))) rfl ⟨rfl, (by (repeat' (first | (with_reducible exact Ext.refl _) | (with_reducible assumption) | (with_reducible refine Ext.alloc ?_ _) | (with_reducible refine Ext.drew ?_) | (with_reducible refine Ext.drewN ?_ _) | (with_reducible refine Ext.setCell ?_ ?_ _) | (with_reducible refine Ext.trans ?_ (by assumption)))) <;> (first | (with_reducible assumption) | omega | (simp; done) | (simp; omega)))⟩
theorem pressed_any (n k : Nat) (hn : n < 68719476736) (hk : k < 36) (w : World) : Calls Try.prog 128 #[.int .u64 (n : Int), .int .i64 (k : Int)] w fun e w' => e = .returned (.int .u64 (sh n (k % 6) (k / 6) : Nat)) ∧ Ext w w' := by
  have HC := Lib.hid (show ∀ w, Calls Try.prog 118 #[.int .u64 (n : Int), .int .i64 ((k : Int) % 6), .int .i64 ((k : Int) / 6)] w fun e w' => e = .returned (.int .u64 (sh n (k % 6) (k / 6) : Nat)) ∧ Ext w w' from fun w => by
    have := shifted_any n hn ((k : Int) % 6) ((k : Int) / 6) w
    rw [show m6 ((k : Int) % 6) = k % 6 by unfold m6; omega, show m6 ((k : Int) / 6) = k / 6 by unfold m6; omega] at this
    exact this)
  go_enter Try.func128, Try.ntmps128
  go_wp2_with (go_at_call 118; refine (HC.out _).mono ?_; rintro e w1 ⟨rfl, hE⟩)
  go_returns
  exact ⟨rfl, (by (repeat' (first | (with_reducible exact Ext.refl _) | (with_reducible assumption) | (with_reducible refine Ext.alloc ?_ _) | (with_reducible refine Ext.drew ?_) | (with_reducible refine Ext.drewN ?_ _) | (with_reducible refine Ext.setCell ?_ ?_ _) | (with_reducible refine Ext.trans ?_ (by assumption)))) <;> (first | (with_reducible assumption) | omega | (simp; done) | (simp; omega)))⟩
theorem pressed_cell (n x y : Nat) (hn : n < 68719476736) (hx : x < 6) (hy : y < 6) (w : World) : Calls Try.prog 128 #[.int .u64 (n : Int), .int .i64 ((y * 6 + x : Nat) : Int)] w fun e w' => e = .returned (.int .u64 (sh n x y : Nat)) ∧ Ext w w' := by
  have := pressed_any n (y * 6 + x) hn (by omega) w
  rwa [show (y * 6 + x) % 6 = x by omega, show (y * 6 + x) / 6 = y by omega] at this
end Go.Proofs.Ytadnfocbfabjnaa
