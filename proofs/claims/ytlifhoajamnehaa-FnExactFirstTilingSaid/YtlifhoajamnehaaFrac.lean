/- Frac: contracts of functions, and lemmas, for this seat. Conditions: as each states. -/
import Derived.Test.YtlifhoajamnehaaVs
import Derived.Test.YtlifhoajamnehaaPopM
import Derived.Test.YtlifhoajamnehaaCount
set_option linter.unusedVariables false
set_option maxRecDepth 100000
set_option maxHeartbeats 1000000
namespace Go.Proofs.Ytlifhoajamnehaa
open Go Go.RowKit
theorem gcd_step {p q : Nat} (h : q ≠ 0) : Nat.gcd q (p % q) = Nat.gcd p q := by
  rw [Nat.gcd_comm q, ← Nat.gcd_rec, Nat.gcd_comm]
theorem gcd_pos {a b : Nat} (h : 0 < b) : 0 < Nat.gcd a b := Nat.gcd_pos_of_pos_right a h
theorem gcd_le' {a b : Nat} (h : 0 < b) : Nat.gcd a b ≤ b := Nat.gcd_le_right a h
theorem div_le {a p : Nat} (h : a < 4611686018427387904) : 0 ≤ (a : Int) / (p : Int) ∧ (a : Int) / (p : Int) < 4611686018427387904 := by
  have := Nat.div_le_self a p
  rw [← Int.natCast_ediv]
  generalize a / p = c at *
  omega
/-- a fraction, cut -/
def cut (a b : Nat) : Nat := a / Nat.gcd a b
def cutD (a b : Nat) : Nat := b / Nat.gcd a b
theorem l1Most_1 (x : Nat) (hx : 0 < x) (w : World) : Calls Try.prog 148 #[.int .i64 (x : Int), .int .i64 1] w fun e w' => e = .returned (.int .i64 (x : Int)) ∧ w = w' := by
  by_cases h : 1 < x
  · go_enter Try.func148, Try.ntmps148
    go_wp2
    go_returns
    exact ⟨rfl, rfl⟩
  · obtain rfl : x = 1 := by omega
    clear h
    go_enter Try.func148, Try.ntmps148
    go_wp2
    go_returns
    exact ⟨rfl, rfl⟩
theorem fraction_n (a b : Nat) (hb : 0 < b) (ha2 : a < 4611686018427387904) (hb2 : b < 4611686018427387904) (w : World) : Calls Try.prog 106 #[.int .i64 (a : Int), .int .i64 (b : Int)] w fun e w' => e = .returned (.agg #[.int .i64 ((cut a b : Nat)), .int .i64 ((cutD a b : Nat))]) ∧ Ext w w' := by
  have hg := gcd_pos (a := a) hb
  unfold cut cutD
  obtain ⟨g, hgd⟩ : ∃ g, g = a.gcd b := ⟨_, rfl⟩
  rw [← hgd] at hg ⊢
  have HD := Lib.hid hgd
  clear hgd
  go_enter Try.func106, Try.ntmps106
  go_wp2
  go_loopw [5, 6] (fun x y wr => ∃ p q : Nat, x = .int .i64 p ∧ y = .int .i64 q ∧ p.gcd q = g ∧ p < 4611686018427387904 ∧ q < 4611686018427387904 ∧ Ext w wr ∧ Arr2 wr w.heap.size (fun _ => 0) ∧ w.heap.size < wr.heap.size) (fun _ y _ => (intOf y).toNat)
  case atStart => exact ⟨a, b, rfl, rfl, HD.out.symm, ha2, hb2, (by (repeat' (first | (with_reducible exact Ext.refl _) | (with_reducible assumption) | (with_reducible refine Ext.alloc ?_ _) | (with_reducible refine Ext.drew ?_) | (with_reducible refine Ext.drewN ?_ _) | (with_reducible refine Ext.setCell ?_ ?_ _) | (with_reducible refine Ext.trans ?_ (by assumption)))) <;> (first | (with_reducible assumption) | omega | (simp; done) | (simp; omega))), Arr2.new w (fun _ => 0) _ rfl, by simp⟩
  case round =>
    obtain ⟨p, q, rfl, rfl, hpq, hp, hq, hx, hr, hz⟩ := hrel
    obtain ⟨wo, rfl⟩ : ∃ wo : World, wo = wr := ⟨_, rfl⟩
    have HR := Lib.hid hr
    have HG := Lib.hid hpq
    clear hr hpq
    by_cases h0 : q = 0
    · subst h0
      rw [Nat.gcd_zero_right] at HG
      obtain rfl : p = g := HG.out
      clear HG HD
      obtain ⟨q1, q2⟩ := div_le (a := a) (p := p) ha2
      obtain ⟨q3, q4⟩ := div_le (a := b) (p := p) hb2
      obtain ⟨⟨d0, d1⟩, f0, f1⟩ := HR.out.all
      go_wp2
      refine wp_still 7 (by kernel_rfl) (by kernel_rfl) ?_; simp only [List.take_succ_cons, List.take_zero, List.drop_succ_cons, List.drop_zero]; (refine wpStill_step (fun K hK => ?_); go_simp; (try (go_ints; try go_simp)); first | (refine hK _ ?_; clear hK K) | (apply Exists.intro; refine ⟨?_, hK _ ?_⟩; (fail); clear hK K) | (simp only [↓IntWalk.iteOmega]; (try go_simp); (try (go_ints; try go_simp)); first | (refine hK _ ?_; clear hK K) | (apply Exists.intro; refine ⟨?_, hK _ ?_⟩; (fail); clear hK K))); (refine wpStill_step (fun K hK => ?_); go_simp; (try (go_ints; try go_simp)); first | (refine hK _ ?_; clear hK K) | (apply Exists.intro; refine ⟨?_, hK _ ?_⟩; (fail); clear hK K) | (simp only [↓IntWalk.iteOmega]; (try go_simp); (try (go_ints; try go_simp)); first | (refine hK _ ?_; clear hK K) | (apply Exists.intro; refine ⟨?_, hK _ ?_⟩; (fail); clear hK K))); (refine wpStill_step (fun K hK => ?_); go_simp; (try (go_ints; try go_simp)); first | (refine hK _ ?_; clear hK K) | (apply Exists.intro; refine ⟨?_, hK _ ?_⟩; (fail); clear hK K) | (simp only [↓IntWalk.iteOmega]; (try go_simp); (try (go_ints; try go_simp)); first | (refine hK _ ?_; clear hK K) | (apply Exists.intro; refine ⟨?_, hK _ ?_⟩; (fail); clear hK K))); (refine wpStill_step (fun K hK => ?_); go_simp; (try (go_ints; try go_simp)); first | (refine hK _ ?_; clear hK K) | (apply Exists.intro; refine ⟨?_, hK _ ?_⟩; (fail); clear hK K) | (simp only [↓IntWalk.iteOmega]; (try go_simp); (try (go_ints; try go_simp)); first | (refine hK _ ?_; clear hK K) | (apply Exists.intro; refine ⟨?_, hK _ ?_⟩; (fail); clear hK K))); (refine wpStill_step (fun K hK => ?_); go_simp; (try (go_ints; try go_simp)); first | (refine hK _ ?_; clear hK K) | (apply Exists.intro; refine ⟨?_, hK _ ?_⟩; (fail); clear hK K) | (simp only [↓IntWalk.iteOmega]; (try go_simp); (try (go_ints; try go_simp)); first | (refine hK _ ?_; clear hK K) | (apply Exists.intro; refine ⟨?_, hK _ ?_⟩; (fail); clear hK K))); (refine wpStill_step (fun K hK => ?_); go_simp; (try (go_ints; try go_simp)); first | (refine hK _ ?_; clear hK K) | (apply Exists.intro; refine ⟨?_, hK _ ?_⟩; (fail); clear hK K) | (simp only [↓IntWalk.iteOmega]; (try go_simp); (try (go_ints; try go_simp)); first | (refine hK _ ?_; clear hK K) | (apply Exists.intro; refine ⟨?_, hK _ ?_⟩; (fail); clear hK K))); (refine wpStill_step (fun K hK => ?_); go_simp; (try (go_ints; try go_simp)); first | (refine hK _ ?_; clear hK K) | (apply Exists.intro; refine ⟨?_, hK _ ?_⟩; (fail); clear hK K) | (simp only [↓IntWalk.iteOmega]; (try go_simp); (try (go_ints; try go_simp)); first | (refine hK _ ?_; clear hK K) | (apply Exists.intro; refine ⟨?_, hK _ ?_⟩; (fail); clear hK K))); refine wpStill_nil ?_
      go_wp2
      exact bodyPost_ret (ret_cell rfl rfl (load_two (HR.out.two ((a : Int) / (p : Int)) ((b : Int) / (p : Int))))) rfl ⟨rfl, (by (repeat' (first | (with_reducible exact Ext.refl _) | (with_reducible assumption) | (with_reducible refine Ext.alloc ?_ _) | (with_reducible refine Ext.drew ?_) | (with_reducible refine Ext.drewN ?_ _) | (with_reducible refine Ext.setCell ?_ ?_ _) | (with_reducible refine Ext.trans ?_ (by assumption)))) <;> (first | (with_reducible assumption) | omega | (simp; done) | (simp; omega)))⟩
    · skip
      go_wp2
      refine wp_calm0 (by kernel_rfl) (by kernel_rfl) ?_; intro hgr; (refine walkQ_step (fun K hK => ?_); go_simp; (try (go_ints; try go_simp)); first | (refine hK _ ?_; clear hK K) | (apply Exists.intro; refine ⟨fun _ => ?_, hK _ ?_⟩; (fail); clear hK K) | (simp only [↓IntWalk.iteOmega]; (try go_simp); (try (go_ints; try go_simp)); first | (refine hK _ ?_; clear hK K) | (apply Exists.intro; refine ⟨fun _ => ?_, hK _ ?_⟩; (fail); clear hK K))); (refine walkQ_step (fun K hK => ?_); go_simp; (try (go_ints; try go_simp)); first | (refine hK _ ?_; clear hK K) | (apply Exists.intro; refine ⟨fun _ => ?_, hK _ ?_⟩; (fail); clear hK K) | (simp only [↓IntWalk.iteOmega]; (try go_simp); (try (go_ints; try go_simp)); first | (refine hK _ ?_; clear hK K) | (apply Exists.intro; refine ⟨fun _ => ?_, hK _ ?_⟩; (fail); clear hK K))); (refine walkQ_step (fun K hK => ?_); go_simp; (try (go_ints; try go_simp)); first | (refine hK _ ?_; clear hK K) | (apply Exists.intro; refine ⟨fun _ => ?_, hK _ ?_⟩; (fail); clear hK K) | (simp only [↓IntWalk.iteOmega]; (try go_simp); (try (go_ints; try go_simp)); first | (refine hK _ ?_; clear hK K) | (apply Exists.intro; refine ⟨fun _ => ?_, hK _ ?_⟩; (fail); clear hK K))); (refine walkQ_step (fun K hK => ?_); go_simp; (try (go_ints; try go_simp)); first | (refine hK _ ?_; clear hK K) | (apply Exists.intro; refine ⟨fun _ => ?_, hK _ ?_⟩; (fail); clear hK K) | (simp only [↓IntWalk.iteOmega]; (try go_simp); (try (go_ints; try go_simp)); first | (refine hK _ ?_; clear hK K) | (apply Exists.intro; refine ⟨fun _ => ?_, hK _ ?_⟩; (fail); clear hK K))); (refine walkQ_step (fun K hK => ?_); go_simp; (try (go_ints; try go_simp)); first | (refine hK _ ?_; clear hK K) | (apply Exists.intro; refine ⟨fun _ => ?_, hK _ ?_⟩; (fail); clear hK K) | (simp only [↓IntWalk.iteOmega]; (try go_simp); (try (go_ints; try go_simp)); first | (refine hK _ ?_; clear hK K) | (apply Exists.intro; refine ⟨fun _ => ?_, hK _ ?_⟩; (fail); clear hK K))); (refine walkQ_step (fun K hK => ?_); go_simp; (try (go_ints; try go_simp)); first | (refine hK _ ?_; clear hK K) | (apply Exists.intro; refine ⟨fun _ => ?_, hK _ ?_⟩; (fail); clear hK K) | (simp only [↓IntWalk.iteOmega]; (try go_simp); (try (go_ints; try go_simp)); first | (refine hK _ ?_; clear hK K) | (apply Exists.intro; refine ⟨fun _ => ?_, hK _ ?_⟩; (fail); clear hK K))); refine walkQ_nil ?_; clear hgr; intro w1 hE; have hc2 := hE.cells; have hf2 := hE.frees; have hz2 := hE.size
      replace hE : Ext wo w1 := ((Ext.refl wo).drew).trans hE
      have HR1 := Lib.hid (HR.out.ext hE hz)
      have hs := hE.size
      go_wp2
      refine ⟨⟨q, p % q, rfl, by go_num, (gcd_step h0).trans HG.out, hq, ?_, (by (repeat' (first | (with_reducible exact Ext.refl _) | (with_reducible assumption) | (with_reducible refine Ext.alloc ?_ _) | (with_reducible refine Ext.drew ?_) | (with_reducible refine Ext.drewN ?_ _) | (with_reducible refine Ext.setCell ?_ ?_ _) | (with_reducible refine Ext.trans ?_ (by assumption)))) <;> (first | (with_reducible assumption) | omega | (simp; done) | (simp; omega))), HR1.out, by omega⟩, ?_⟩
      · have := Nat.mod_lt p (Nat.pos_of_ne_zero h0); omega
      · have := Nat.mod_lt p (Nat.pos_of_ne_zero h0); simp [intOf]; omega
theorem l9Cut_n (a b : Nat) (hb : 0 < b) (ha2 : a < 4611686018427387904) (hb2 : b < 4611686018427387904) (w : World) : Calls Try.prog 103 #[.int .i64 (a : Int), .int .i64 (b : Int)] w fun e w' => e = .returned (.agg #[.int .i64 ((cut a b : Nat)), .int .i64 ((cutD a b : Nat))]) ∧ Ext w w' := by
  have hg := gcd_pos (a := a) hb
  unfold cut cutD
  obtain ⟨g, hgd⟩ : ∃ g, g = a.gcd b := ⟨_, rfl⟩
  rw [← hgd] at hg ⊢
  have HD := Lib.hid hgd
  clear hgd
  go_enter Try.func103, Try.ntmps103
  go_wp2
  go_loopw [5, 6] (fun x y wr => ∃ p q : Nat, x = .int .i64 p ∧ y = .int .i64 q ∧ p.gcd q = g ∧ p < 4611686018427387904 ∧ q < 4611686018427387904 ∧ Ext w wr ∧ Arr2 wr w.heap.size (fun _ => 0) ∧ w.heap.size < wr.heap.size) (fun _ y _ => (intOf y).toNat)
  case atStart => exact ⟨a, b, rfl, rfl, HD.out.symm, ha2, hb2, (by (repeat' (first | (with_reducible exact Ext.refl _) | (with_reducible assumption) | (with_reducible refine Ext.alloc ?_ _) | (with_reducible refine Ext.drew ?_) | (with_reducible refine Ext.drewN ?_ _) | (with_reducible refine Ext.setCell ?_ ?_ _) | (with_reducible refine Ext.trans ?_ (by assumption)))) <;> (first | (with_reducible assumption) | omega | (simp; done) | (simp; omega))), Arr2.new w (fun _ => 0) _ rfl, by simp⟩
  case round =>
    obtain ⟨p, q, rfl, rfl, hpq, hp, hq, hx, hr, hz⟩ := hrel
    obtain ⟨wo, rfl⟩ : ∃ wo : World, wo = wr := ⟨_, rfl⟩
    have HR := Lib.hid hr
    have HG := Lib.hid hpq
    clear hr hpq
    by_cases h0 : q = 0
    · subst h0
      rw [Nat.gcd_zero_right] at HG
      obtain rfl : p = g := HG.out
      clear HG HD
      obtain ⟨q1, q2⟩ := div_le (a := a) (p := p) ha2
      obtain ⟨q3, q4⟩ := div_le (a := b) (p := p) hb2
      obtain ⟨⟨d0, d1⟩, f0, f1⟩ := HR.out.all
      have HM := Lib.hid (fun w => l1Most_1 p hg w)
      go_wp2
      refine wp_still 9 (by kernel_rfl) (by kernel_rfl) ?_; simp only [List.take_succ_cons, List.take_zero, List.drop_succ_cons, List.drop_zero]; (refine wpStill_step (fun K hK => ?_); go_simp; (try (go_ints; try go_simp)); first | (refine hK _ ?_; clear hK K) | (apply Exists.intro; refine ⟨?_, hK _ ?_⟩; ((go_at_call 148; exact still_same (HM.out _))); clear hK K) | (simp only [↓IntWalk.iteOmega]; (try go_simp); (try (go_ints; try go_simp)); first | (refine hK _ ?_; clear hK K) | (apply Exists.intro; refine ⟨?_, hK _ ?_⟩; ((go_at_call 148; exact still_same (HM.out _))); clear hK K))); (refine wpStill_step (fun K hK => ?_); go_simp; (try (go_ints; try go_simp)); first | (refine hK _ ?_; clear hK K) | (apply Exists.intro; refine ⟨?_, hK _ ?_⟩; ((go_at_call 148; exact still_same (HM.out _))); clear hK K) | (simp only [↓IntWalk.iteOmega]; (try go_simp); (try (go_ints; try go_simp)); first | (refine hK _ ?_; clear hK K) | (apply Exists.intro; refine ⟨?_, hK _ ?_⟩; ((go_at_call 148; exact still_same (HM.out _))); clear hK K))); (refine wpStill_step (fun K hK => ?_); go_simp; (try (go_ints; try go_simp)); first | (refine hK _ ?_; clear hK K) | (apply Exists.intro; refine ⟨?_, hK _ ?_⟩; ((go_at_call 148; exact still_same (HM.out _))); clear hK K) | (simp only [↓IntWalk.iteOmega]; (try go_simp); (try (go_ints; try go_simp)); first | (refine hK _ ?_; clear hK K) | (apply Exists.intro; refine ⟨?_, hK _ ?_⟩; ((go_at_call 148; exact still_same (HM.out _))); clear hK K))); (refine wpStill_step (fun K hK => ?_); go_simp; (try (go_ints; try go_simp)); first | (refine hK _ ?_; clear hK K) | (apply Exists.intro; refine ⟨?_, hK _ ?_⟩; ((go_at_call 148; exact still_same (HM.out _))); clear hK K) | (simp only [↓IntWalk.iteOmega]; (try go_simp); (try (go_ints; try go_simp)); first | (refine hK _ ?_; clear hK K) | (apply Exists.intro; refine ⟨?_, hK _ ?_⟩; ((go_at_call 148; exact still_same (HM.out _))); clear hK K))); (refine wpStill_step (fun K hK => ?_); go_simp; (try (go_ints; try go_simp)); first | (refine hK _ ?_; clear hK K) | (apply Exists.intro; refine ⟨?_, hK _ ?_⟩; ((go_at_call 148; exact still_same (HM.out _))); clear hK K) | (simp only [↓IntWalk.iteOmega]; (try go_simp); (try (go_ints; try go_simp)); first | (refine hK _ ?_; clear hK K) | (apply Exists.intro; refine ⟨?_, hK _ ?_⟩; ((go_at_call 148; exact still_same (HM.out _))); clear hK K))); (refine wpStill_step (fun K hK => ?_); go_simp; (try (go_ints; try go_simp)); first | (refine hK _ ?_; clear hK K) | (apply Exists.intro; refine ⟨?_, hK _ ?_⟩; ((go_at_call 148; exact still_same (HM.out _))); clear hK K) | (simp only [↓IntWalk.iteOmega]; (try go_simp); (try (go_ints; try go_simp)); first | (refine hK _ ?_; clear hK K) | (apply Exists.intro; refine ⟨?_, hK _ ?_⟩; ((go_at_call 148; exact still_same (HM.out _))); clear hK K))); (refine wpStill_step (fun K hK => ?_); go_simp; (try (go_ints; try go_simp)); first | (refine hK _ ?_; clear hK K) | (apply Exists.intro; refine ⟨?_, hK _ ?_⟩; ((go_at_call 148; exact still_same (HM.out _))); clear hK K) | (simp only [↓IntWalk.iteOmega]; (try go_simp); (try (go_ints; try go_simp)); first | (refine hK _ ?_; clear hK K) | (apply Exists.intro; refine ⟨?_, hK _ ?_⟩; ((go_at_call 148; exact still_same (HM.out _))); clear hK K))); (refine wpStill_step (fun K hK => ?_); go_simp; (try (go_ints; try go_simp)); first | (refine hK _ ?_; clear hK K) | (apply Exists.intro; refine ⟨?_, hK _ ?_⟩; ((go_at_call 148; exact still_same (HM.out _))); clear hK K) | (simp only [↓IntWalk.iteOmega]; (try go_simp); (try (go_ints; try go_simp)); first | (refine hK _ ?_; clear hK K) | (apply Exists.intro; refine ⟨?_, hK _ ?_⟩; ((go_at_call 148; exact still_same (HM.out _))); clear hK K))); (refine wpStill_step (fun K hK => ?_); go_simp; (try (go_ints; try go_simp)); first | (refine hK _ ?_; clear hK K) | (apply Exists.intro; refine ⟨?_, hK _ ?_⟩; ((go_at_call 148; exact still_same (HM.out _))); clear hK K) | (simp only [↓IntWalk.iteOmega]; (try go_simp); (try (go_ints; try go_simp)); first | (refine hK _ ?_; clear hK K) | (apply Exists.intro; refine ⟨?_, hK _ ?_⟩; ((go_at_call 148; exact still_same (HM.out _))); clear hK K))); refine wpStill_nil ?_
      go_wp2
      exact bodyPost_ret (ret_cell rfl rfl (load_two (HR.out.two ((a : Int) / (p : Int)) ((b : Int) / (p : Int))))) rfl ⟨rfl, (by (repeat' (first | (with_reducible exact Ext.refl _) | (with_reducible assumption) | (with_reducible refine Ext.alloc ?_ _) | (with_reducible refine Ext.drew ?_) | (with_reducible refine Ext.drewN ?_ _) | (with_reducible refine Ext.setCell ?_ ?_ _) | (with_reducible refine Ext.trans ?_ (by assumption)))) <;> (first | (with_reducible assumption) | omega | (simp; done) | (simp; omega)))⟩
    · skip
      go_wp2
      refine wp_calm0 (by kernel_rfl) (by kernel_rfl) ?_; intro hgr; (refine walkQ_step (fun K hK => ?_); go_simp; (try (go_ints; try go_simp)); first | (refine hK _ ?_; clear hK K) | (apply Exists.intro; refine ⟨fun _ => ?_, hK _ ?_⟩; (fail); clear hK K) | (simp only [↓IntWalk.iteOmega]; (try go_simp); (try (go_ints; try go_simp)); first | (refine hK _ ?_; clear hK K) | (apply Exists.intro; refine ⟨fun _ => ?_, hK _ ?_⟩; (fail); clear hK K))); (refine walkQ_step (fun K hK => ?_); go_simp; (try (go_ints; try go_simp)); first | (refine hK _ ?_; clear hK K) | (apply Exists.intro; refine ⟨fun _ => ?_, hK _ ?_⟩; (fail); clear hK K) | (simp only [↓IntWalk.iteOmega]; (try go_simp); (try (go_ints; try go_simp)); first | (refine hK _ ?_; clear hK K) | (apply Exists.intro; refine ⟨fun _ => ?_, hK _ ?_⟩; (fail); clear hK K))); (refine walkQ_step (fun K hK => ?_); go_simp; (try (go_ints; try go_simp)); first | (refine hK _ ?_; clear hK K) | (apply Exists.intro; refine ⟨fun _ => ?_, hK _ ?_⟩; (fail); clear hK K) | (simp only [↓IntWalk.iteOmega]; (try go_simp); (try (go_ints; try go_simp)); first | (refine hK _ ?_; clear hK K) | (apply Exists.intro; refine ⟨fun _ => ?_, hK _ ?_⟩; (fail); clear hK K))); (refine walkQ_step (fun K hK => ?_); go_simp; (try (go_ints; try go_simp)); first | (refine hK _ ?_; clear hK K) | (apply Exists.intro; refine ⟨fun _ => ?_, hK _ ?_⟩; (fail); clear hK K) | (simp only [↓IntWalk.iteOmega]; (try go_simp); (try (go_ints; try go_simp)); first | (refine hK _ ?_; clear hK K) | (apply Exists.intro; refine ⟨fun _ => ?_, hK _ ?_⟩; (fail); clear hK K))); (refine walkQ_step (fun K hK => ?_); go_simp; (try (go_ints; try go_simp)); first | (refine hK _ ?_; clear hK K) | (apply Exists.intro; refine ⟨fun _ => ?_, hK _ ?_⟩; (fail); clear hK K) | (simp only [↓IntWalk.iteOmega]; (try go_simp); (try (go_ints; try go_simp)); first | (refine hK _ ?_; clear hK K) | (apply Exists.intro; refine ⟨fun _ => ?_, hK _ ?_⟩; (fail); clear hK K))); (refine walkQ_step (fun K hK => ?_); go_simp; (try (go_ints; try go_simp)); first | (refine hK _ ?_; clear hK K) | (apply Exists.intro; refine ⟨fun _ => ?_, hK _ ?_⟩; (fail); clear hK K) | (simp only [↓IntWalk.iteOmega]; (try go_simp); (try (go_ints; try go_simp)); first | (refine hK _ ?_; clear hK K) | (apply Exists.intro; refine ⟨fun _ => ?_, hK _ ?_⟩; (fail); clear hK K))); refine walkQ_nil ?_; clear hgr; intro w1 hE; have hc2 := hE.cells; have hf2 := hE.frees; have hz2 := hE.size
      replace hE : Ext wo w1 := ((Ext.refl wo).drew).trans hE
      have HR1 := Lib.hid (HR.out.ext hE hz)
      have hs := hE.size
      go_wp2
      refine ⟨⟨q, p % q, rfl, by go_num, (gcd_step h0).trans HG.out, hq, ?_, (by (repeat' (first | (with_reducible exact Ext.refl _) | (with_reducible assumption) | (with_reducible refine Ext.alloc ?_ _) | (with_reducible refine Ext.drew ?_) | (with_reducible refine Ext.drewN ?_ _) | (with_reducible refine Ext.setCell ?_ ?_ _) | (with_reducible refine Ext.trans ?_ (by assumption)))) <;> (first | (with_reducible assumption) | omega | (simp; done) | (simp; omega))), HR1.out, by omega⟩, ?_⟩
      · have := Nat.mod_lt p (Nat.pos_of_ne_zero h0); omega
      · have := Nat.mod_lt p (Nat.pos_of_ne_zero h0); simp [intOf]; omega
theorem and_le (a b : Nat) : a &&& b ≤ b := Nat.and_le_right
theorem onesCount_n (n : Nat) (hn : n < 68719476736) (w : World) : Calls Try.prog 146 #[.int .u64 (n : Int)] w fun e w' => e = .returned (.int .i64 (cnt n : Nat)) ∧ w = w' := by
  obtain ⟨x1, h1⟩ : ∃ x, x = s1 M1 n := ⟨_, rfl⟩
  obtain ⟨x2, h2⟩ : ∃ x, x = s2 M2 x1 := ⟨_, rfl⟩
  obtain ⟨x3, h3⟩ : ∃ x, x = s3 M3 x2 := ⟨_, rfl⟩
  obtain ⟨x4, h4⟩ : ∃ x, x = x3 + x3 / 256 := ⟨_, rfl⟩
  obtain ⟨x5, h5⟩ : ∃ x, x = x4 + x4 / 65536 := ⟨_, rfl⟩
  obtain ⟨x6, h6⟩ : ∃ x, x = x5 + x5 / 4294967296 := ⟨_, rfl⟩
  have hp := pop_cnt hn x4 x5 x6 (by rw [← h1, ← h2, ← h3]; exact h4) h5 h6
  have b1 : x1 ≤ 12297829382473034410 := by rw [h1]; unfold s1; have := and_le (n / 2) M1; have := and_le n M1; unfold M1 at *; omega
  have b2 : x2 ≤ 7378697629483820646 := by rw [h2]; unfold s2; have := and_le (x1 / 4) M2; have := and_le x1 M2; unfold M2 at *; omega
  have b3 : x3 ≤ 1085102592571150095 := by rw [h3]; unfold s3; exact and_le _ _
  unfold s1 at h1
  unfold s2 at h2
  unfold s3 at h3
  have e1 : IntKind.u64.wrap (bits .and .u64 ((n : Int) / 2) 6148914691236517205 + bits .and .u64 (n : Int) 6148914691236517205) = (x1 : Nat) := by
    have q1 : bits .and .u64 ((n : Int) / 2) 6148914691236517205 = ((n / 2 &&& M1 : Nat) : Int) := u64_and_nat (n / 2) M1 (by omega) (by unfold M1; omega)
    have q2 : bits .and .u64 (n : Int) 6148914691236517205 = ((n &&& M1 : Nat) : Int) := u64_and_nat n M1 (by omega) (by unfold M1; omega)
    rw [q1, q2, ← Int.natCast_add, ← h1]
    exact IntWalk.u64_in _ (by omega)
  have e2 : IntKind.u64.wrap (bits .and .u64 ((x1 : Int) / 4) 3689348814741910323 + bits .and .u64 (x1 : Int) 3689348814741910323) = (x2 : Nat) := by
    have q1 : bits .and .u64 ((x1 : Int) / 4) 3689348814741910323 = ((x1 / 4 &&& M2 : Nat) : Int) := u64_and_nat (x1 / 4) M2 (by omega) (by unfold M2; omega)
    have q2 : bits .and .u64 (x1 : Int) 3689348814741910323 = ((x1 &&& M2 : Nat) : Int) := u64_and_nat x1 M2 (by omega) (by unfold M2; omega)
    rw [q1, q2, ← Int.natCast_add, ← h2]
    exact IntWalk.u64_in _ (by omega)
  have e3 : bits .and .u64 (IntKind.u64.wrap ((x2 : Int) / 16 + (x2 : Int))) 1085102592571150095 = (x3 : Nat) := by
    rw [IntWalk.u64_in _ (by omega), h3]
    exact u64_and_nat (x2 / 16 + x2) M3 (by omega) (by unfold M3; omega)
  have e4 : IntKind.u64.wrap ((x3 : Int) + (x3 : Int) / 256) = (x4 : Nat) := by
    rw [IntWalk.u64_in _ (by omega), h4]
    omega
  have b4 : x4 ≤ 2170205185142300190 := by omega
  have e5 : IntKind.u64.wrap ((x4 : Int) + (x4 : Int) / 65536) = (x5 : Nat) := by
    rw [IntWalk.u64_in _ (by omega), h5]
    omega
  have b5 : x5 ≤ 3255307777713450285 := by omega
  have e6 : IntKind.u64.wrap ((x5 : Int) + (x5 : Int) / 4294967296) = (x6 : Nat) := by
    rw [IntWalk.u64_in _ (by omega), h6]
    omega
  have b6 : x6 ≤ 4340410370284600380 := by omega
  have e7 : wrap64 (x6 : Int) = (x6 : Int) := IntWalk.wrap64_in _ (by clear h1 h2 h3 h4 h5 h6 hp b1 b2 b3 b4 b5; omega)
  have e8 : bits .and .i64 (x6 : Int) 127 = ((cnt n : Nat) : Int) := by
    rw [← hp]
    have b7 : x6 < 9223372036854775808 := Nat.lt_of_le_of_lt b6 (by decide)
    refine (iand x6 127 b7 (by decide)).trans (nat_int ?_)
    exact Nat.and_two_pow_sub_one_eq_mod x6 7
  clear b1 b2 b3 b4 b5 b6 h1 h2 h3 h4 h5 h6 hp
  go_enter Try.func146, Try.ntmps146
  go_wp2
  go_returns
  exact ⟨rfl, rfl⟩
theorem size_n (n : Nat) (hn : n < 68719476736) (w : World) : Calls Try.prog 99 #[.int .u64 (n : Int)] w fun e w' => e = .returned (.int .i64 (cnt n : Nat)) ∧ w = w' := by
  go_enter Try.func99, Try.ntmps99
  go_wp2_with (go_at_call 146; refine (onesCount_n n hn _).mono ?_; rintro e w' ⟨rfl, rfl⟩)
  go_returns
  exact ⟨rfl, rfl⟩
end Go.Proofs.Ytlifhoajamnehaa
