/- Frac SprC Refl: contracts of functions, and lemmas, for this seat. Conditions: as each states. -/
import Derived.Test.YtlifhoajamnehaaTd03
import Derived.Test.YtlifhoajamnehaaTd06
set_option linter.unusedVariables false
set_option linter.unusedSimpArgs false
set_option maxRecDepth 100000
set_option maxHeartbeats 1000000
namespace Go.Proofs.Ytlifhoajamnehaa
open Go Go.RowKit
theorem gcd_step {p q : Nat} (h : q ≠ 0) : Nat.gcd q (p % q) = Nat.gcd p q := by
  rw [Nat.gcd_comm q, ← Nat.gcd_rec, Nat.gcd_comm]
theorem gcd_pos {a b : Nat} (h : 0 < b) : 0 < Nat.gcd a b := Nat.gcd_pos_of_pos_right a h
theorem gcd_le' {a b : Nat} (h : 0 < b) : Nat.gcd a b ≤ b := Nat.gcd_le_right a h
theorem div_le {a p : Nat} (h : a < 4611686018427387904) : 0 ≤ (a : Int) / (p : Int) ∧ (a : Int) / (p : Int) < 4611686018427387904 := by
  have := Nat.div_le_self a p
  rw [← Int.natCast_ediv]
  generalize a / p = c at *
  omega
/-- a fraction, cut -/
def cut (a b : Nat) : Nat := a / Nat.gcd a b
def cutD (a b : Nat) : Nat := b / Nat.gcd a b
theorem l1Most_1 (x : Nat) (hx : 0 < x) (w : World) : Calls Try.prog 148 #[.int .i64 (x : Int), .int .i64 1] w fun e w' => e = .returned (.int .i64 (x : Int)) ∧ w = w' := by
  by_cases h : 1 < x
  · go_enter Try.func148, Try.ntmps148
    go_wp2
    go_returns
    exact ⟨rfl, rfl⟩
  · obtain rfl : x = 1 := by omega
    clear h
    go_enter Try.func148, Try.ntmps148
    go_wp2
    go_returns
    exact ⟨rfl, rfl⟩
theorem fraction_n (a b : Nat) (hb : 0 < b) (ha2 : a < 4611686018427387904) (hb2 : b < 4611686018427387904) (w : World) : Calls Try.prog 106 #[.int .i64 (a : Int), .int .i64 (b : Int)] w fun e w' => e = .returned (.agg #[.int .i64 ((cut a b : Nat)), .int .i64 ((cutD a b : Nat))]) ∧ Ext w w' := by
  have hg := gcd_pos (a := a) hb
  unfold cut cutD
  obtain ⟨g, hgd⟩ : ∃ g, g = a.gcd b := ⟨_, rfl⟩
  rw [← hgd] at hg ⊢
  have HD := Lib.hid hgd
  clear hgd
  go_enter Try.func106, Try.ntmps106
  go_wp2
  go_loopw [5, 6] (fun x y wr => ∃ p q : Nat, x = .int .i64 p ∧ y = .int .i64 q ∧ p.gcd q = g ∧ p < 4611686018427387904 ∧ q < 4611686018427387904 ∧ Ext w wr ∧ Arr2 wr w.heap.size (fun _ => 0) ∧ w.heap.size < wr.heap.size) (fun _ y _ => (intOf y).toNat)
  case atStart => exact ⟨a, b, rfl, rfl, HD.out.symm, ha2, hb2, (by (repeat' (first | (with_reducible exact Ext.refl _) | (with_reducible assumption) | (with_reducible refine Ext.alloc ?_ _) | (with_reducible refine Ext.drew ?_) | (with_reducible refine Ext.drewN ?_ _) | (with_reducible refine Ext.setCell ?_ ?_ _) | (with_reducible refine Ext.trans ?_ (by assumption)))) <;> (first | (with_reducible assumption) | omega | (simp; done) | (simp; omega))), Arr2.new w (fun _ => 0) _ rfl, by simp⟩
  case round =>
    obtain ⟨p, q, rfl, rfl, hpq, hp, hq, hx, hr, hz⟩ := hrel
    obtain ⟨wo, rfl⟩ : ∃ wo : World, wo = wr := ⟨_, rfl⟩
    have HR := Lib.hid hr
    have HG := Lib.hid hpq
    clear hr hpq
    by_cases h0 : q = 0
    · subst h0
      rw [Nat.gcd_zero_right] at HG
      obtain rfl : p = g := HG.out
      clear HG HD
      obtain ⟨q1, q2⟩ := div_le (a := a) (p := p) ha2
      obtain ⟨q3, q4⟩ := div_le (a := b) (p := p) hb2
      obtain ⟨⟨d0, d1⟩, f0, f1⟩ := HR.out.all
      go_wp2
      refine wp_still 7 (by kernel_rfl) (by kernel_rfl) ?_; simp only [List.take_succ_cons, List.take_zero, List.drop_succ_cons, List.drop_zero]; (refine wpStill_step (fun K hK => ?_); go_simp; (try (go_ints; try go_simp)); first | (refine hK _ ?_; clear hK K) | (apply Exists.intro; refine ⟨?_, hK _ ?_⟩; (fail); clear hK K) | (simp only [↓IntWalk.iteOmega]; (try go_simp); (try (go_ints; try go_simp)); first | (refine hK _ ?_; clear hK K) | (apply Exists.intro; refine ⟨?_, hK _ ?_⟩; (fail); clear hK K))); (refine wpStill_step (fun K hK => ?_); go_simp; (try (go_ints; try go_simp)); first | (refine hK _ ?_; clear hK K) | (apply Exists.intro; refine ⟨?_, hK _ ?_⟩; (fail); clear hK K) | (simp only [↓IntWalk.iteOmega]; (try go_simp); (try (go_ints; try go_simp)); first | (refine hK _ ?_; clear hK K) | (apply Exists.intro; refine ⟨?_, hK _ ?_⟩; (fail); clear hK K))); (refine wpStill_step (fun K hK => ?_); go_simp; (try (go_ints; try go_simp)); first | (refine hK _ ?_; clear hK K) | (apply Exists.intro; refine ⟨?_, hK _ ?_⟩; (fail); clear hK K) | (simp only [↓IntWalk.iteOmega]; (try go_simp); (try (go_ints; try go_simp)); first | (refine hK _ ?_; clear hK K) | (apply Exists.intro; refine ⟨?_, hK _ ?_⟩; (fail); clear hK K))); (refine wpStill_step (fun K hK => ?_); go_simp; (try (go_ints; try go_simp)); first | (refine hK _ ?_; clear hK K) | (apply Exists.intro; refine ⟨?_, hK _ ?_⟩; (fail); clear hK K) | (simp only [↓IntWalk.iteOmega]; (try go_simp); (try (go_ints; try go_simp)); first | (refine hK _ ?_; clear hK K) | (apply Exists.intro; refine ⟨?_, hK _ ?_⟩; (fail); clear hK K))); (refine wpStill_step (fun K hK => ?_); go_simp; (try (go_ints; try go_simp)); first | (refine hK _ ?_; clear hK K) | (apply Exists.intro; refine ⟨?_, hK _ ?_⟩; (fail); clear hK K) | (simp only [↓IntWalk.iteOmega]; (try go_simp); (try (go_ints; try go_simp)); first | (refine hK _ ?_; clear hK K) | (apply Exists.intro; refine ⟨?_, hK _ ?_⟩; (fail); clear hK K))); (refine wpStill_step (fun K hK => ?_); go_simp; (try (go_ints; try go_simp)); first | (refine hK _ ?_; clear hK K) | (apply Exists.intro; refine ⟨?_, hK _ ?_⟩; (fail); clear hK K) | (simp only [↓IntWalk.iteOmega]; (try go_simp); (try (go_ints; try go_simp)); first | (refine hK _ ?_; clear hK K) | (apply Exists.intro; refine ⟨?_, hK _ ?_⟩; (fail); clear hK K))); (refine wpStill_step (fun K hK => ?_); go_simp; (try (go_ints; try go_simp)); first | (refine hK _ ?_; clear hK K) | (apply Exists.intro; refine ⟨?_, hK _ ?_⟩; (fail); clear hK K) | (simp only [↓IntWalk.iteOmega]; (try go_simp); (try (go_ints; try go_simp)); first | (refine hK _ ?_; clear hK K) | (apply Exists.intro; refine ⟨?_, hK _ ?_⟩; (fail); clear hK K))); refine wpStill_nil ?_
      go_wp2
      exact bodyPost_ret (ret_cell rfl rfl (load_two (HR.out.two ((a : Int) / (p : Int)) ((b : Int) / (p : Int))))) rfl ⟨rfl, (by (repeat' (first | (with_reducible exact Ext.refl _) | (with_reducible assumption) | (with_reducible refine Ext.alloc ?_ _) | (with_reducible refine Ext.drew ?_) | (with_reducible refine Ext.drewN ?_ _) | (with_reducible refine Ext.setCell ?_ ?_ _) | (with_reducible refine Ext.trans ?_ (by assumption)))) <;> (first | (with_reducible assumption) | omega | (simp; done) | (simp; omega)))⟩
    · skip
      go_wp2
      refine wp_calm0 (by kernel_rfl) (by kernel_rfl) ?_; intro hgr; (refine walkQ_step (fun K hK => ?_); go_simp; (try (go_ints; try go_simp)); first | (refine hK _ ?_; clear hK K) | (apply Exists.intro; refine ⟨fun _ => ?_, hK _ ?_⟩; (fail); clear hK K) | (simp only [↓IntWalk.iteOmega]; (try go_simp); (try (go_ints; try go_simp)); first | (refine hK _ ?_; clear hK K) | (apply Exists.intro; refine ⟨fun _ => ?_, hK _ ?_⟩; (fail); clear hK K))); (refine walkQ_step (fun K hK => ?_); go_simp; (try (go_ints; try go_simp)); first | (refine hK _ ?_; clear hK K) | (apply Exists.intro; refine ⟨fun _ => ?_, hK _ ?_⟩; (fail); clear hK K) | (simp only [↓IntWalk.iteOmega]; (try go_simp); (try (go_ints; try go_simp)); first | (refine hK _ ?_; clear hK K) | (apply Exists.intro; refine ⟨fun _ => ?_, hK _ ?_⟩; (fail); clear hK K))); (refine walkQ_step (fun K hK => ?_); go_simp; (try (go_ints; try go_simp)); first | (refine hK _ ?_; clear hK K) | (apply Exists.intro; refine ⟨fun _ => ?_, hK _ ?_⟩; (fail); clear hK K) | (simp only [↓IntWalk.iteOmega]; (try go_simp); (try (go_ints; try go_simp)); first | (refine hK _ ?_; clear hK K) | (apply Exists.intro; refine ⟨fun _ => ?_, hK _ ?_⟩; (fail); clear hK K))); (refine walkQ_step (fun K hK => ?_); go_simp; (try (go_ints; try go_simp)); first | (refine hK _ ?_; clear hK K) | (apply Exists.intro; refine ⟨fun _ => ?_, hK _ ?_⟩; (fail); clear hK K) | (simp only [↓IntWalk.iteOmega]; (try go_simp); (try (go_ints; try go_simp)); first | (refine hK _ ?_; clear hK K) | (apply Exists.intro; refine ⟨fun _ => ?_, hK _ ?_⟩; (fail); clear hK K))); (refine walkQ_step (fun K hK => ?_); go_simp; (try (go_ints; try go_simp)); first | (refine hK _ ?_; clear hK K) | (apply Exists.intro; refine ⟨fun _ => ?_, hK _ ?_⟩; (fail); clear hK K) | (simp only [↓IntWalk.iteOmega]; (try go_simp); (try (go_ints; try go_simp)); first | (refine hK _ ?_; clear hK K) | (apply Exists.intro; refine ⟨fun _ => ?_, hK _ ?_⟩; (fail); clear hK K))); (refine walkQ_step (fun K hK => ?_); go_simp; (try (go_ints; try go_simp)); first | (refine hK _ ?_; clear hK K) | (apply Exists.intro; refine ⟨fun _ => ?_, hK _ ?_⟩; (fail); clear hK K) | (simp only [↓IntWalk.iteOmega]; (try go_simp); (try (go_ints; try go_simp)); first | (refine hK _ ?_; clear hK K) | (apply Exists.intro; refine ⟨fun _ => ?_, hK _ ?_⟩; (fail); clear hK K))); refine walkQ_nil ?_; clear hgr; intro w1 hE; have hc2 := hE.cells; have hf2 := hE.frees; have hz2 := hE.size
      replace hE : Ext wo w1 := ((Ext.refl wo).drew).trans hE
      have HR1 := Lib.hid (HR.out.ext hE hz)
      have hs := hE.size
      go_wp2
      refine ⟨⟨q, p % q, rfl, by go_num, (gcd_step h0).trans HG.out, hq, ?_, (by (repeat' (first | (with_reducible exact Ext.refl _) | (with_reducible assumption) | (with_reducible refine Ext.alloc ?_ _) | (with_reducible refine Ext.drew ?_) | (with_reducible refine Ext.drewN ?_ _) | (with_reducible refine Ext.setCell ?_ ?_ _) | (with_reducible refine Ext.trans ?_ (by assumption)))) <;> (first | (with_reducible assumption) | omega | (simp; done) | (simp; omega))), HR1.out, by omega⟩, ?_⟩
      · have := Nat.mod_lt p (Nat.pos_of_ne_zero h0); omega
      · have := Nat.mod_lt p (Nat.pos_of_ne_zero h0); simp [intOf]; omega
theorem l9Cut_n (a b : Nat) (hb : 0 < b) (ha2 : a < 4611686018427387904) (hb2 : b < 4611686018427387904) (w : World) : Calls Try.prog 103 #[.int .i64 (a : Int), .int .i64 (b : Int)] w fun e w' => e = .returned (.agg #[.int .i64 ((cut a b : Nat)), .int .i64 ((cutD a b : Nat))]) ∧ Ext w w' := by
  have hg := gcd_pos (a := a) hb
  unfold cut cutD
  obtain ⟨g, hgd⟩ : ∃ g, g = a.gcd b := ⟨_, rfl⟩
  rw [← hgd] at hg ⊢
  have HD := Lib.hid hgd
  clear hgd
  go_enter Try.func103, Try.ntmps103
  go_wp2
  go_loopw [5, 6] (fun x y wr => ∃ p q : Nat, x = .int .i64 p ∧ y = .int .i64 q ∧ p.gcd q = g ∧ p < 4611686018427387904 ∧ q < 4611686018427387904 ∧ Ext w wr ∧ Arr2 wr w.heap.size (fun _ => 0) ∧ w.heap.size < wr.heap.size) (fun _ y _ => (intOf y).toNat)
  case atStart => exact ⟨a, b, rfl, rfl, HD.out.symm, ha2, hb2, (by (repeat' (first | (with_reducible exact Ext.refl _) | (with_reducible assumption) | (with_reducible refine Ext.alloc ?_ _) | (with_reducible refine Ext.drew ?_) | (with_reducible refine Ext.drewN ?_ _) | (with_reducible refine Ext.setCell ?_ ?_ _) | (with_reducible refine Ext.trans ?_ (by assumption)))) <;> (first | (with_reducible assumption) | omega | (simp; done) | (simp; omega))), Arr2.new w (fun _ => 0) _ rfl, by simp⟩
  case round =>
    obtain ⟨p, q, rfl, rfl, hpq, hp, hq, hx, hr, hz⟩ := hrel
    obtain ⟨wo, rfl⟩ : ∃ wo : World, wo = wr := ⟨_, rfl⟩
    have HR := Lib.hid hr
    have HG := Lib.hid hpq
    clear hr hpq
    by_cases h0 : q = 0
    · subst h0
      rw [Nat.gcd_zero_right] at HG
      obtain rfl : p = g := HG.out
      clear HG HD
      obtain ⟨q1, q2⟩ := div_le (a := a) (p := p) ha2
      obtain ⟨q3, q4⟩ := div_le (a := b) (p := p) hb2
      obtain ⟨⟨d0, d1⟩, f0, f1⟩ := HR.out.all
      have HM := Lib.hid (fun w => l1Most_1 p hg w)
      go_wp2
      refine wp_still 9 (by kernel_rfl) (by kernel_rfl) ?_; simp only [List.take_succ_cons, List.take_zero, List.drop_succ_cons, List.drop_zero]; (refine wpStill_step (fun K hK => ?_); go_simp; (try (go_ints; try go_simp)); first | (refine hK _ ?_; clear hK K) | (apply Exists.intro; refine ⟨?_, hK _ ?_⟩; ((go_at_call 148; exact still_same (HM.out _))); clear hK K) | (simp only [↓IntWalk.iteOmega]; (try go_simp); (try (go_ints; try go_simp)); first | (refine hK _ ?_; clear hK K) | (apply Exists.intro; refine ⟨?_, hK _ ?_⟩; ((go_at_call 148; exact still_same (HM.out _))); clear hK K))); (refine wpStill_step (fun K hK => ?_); go_simp; (try (go_ints; try go_simp)); first | (refine hK _ ?_; clear hK K) | (apply Exists.intro; refine ⟨?_, hK _ ?_⟩; ((go_at_call 148; exact still_same (HM.out _))); clear hK K) | (simp only [↓IntWalk.iteOmega]; (try go_simp); (try (go_ints; try go_simp)); first | (refine hK _ ?_; clear hK K) | (apply Exists.intro; refine ⟨?_, hK _ ?_⟩; ((go_at_call 148; exact still_same (HM.out _))); clear hK K))); (refine wpStill_step (fun K hK => ?_); go_simp; (try (go_ints; try go_simp)); first | (refine hK _ ?_; clear hK K) | (apply Exists.intro; refine ⟨?_, hK _ ?_⟩; ((go_at_call 148; exact still_same (HM.out _))); clear hK K) | (simp only [↓IntWalk.iteOmega]; (try go_simp); (try (go_ints; try go_simp)); first | (refine hK _ ?_; clear hK K) | (apply Exists.intro; refine ⟨?_, hK _ ?_⟩; ((go_at_call 148; exact still_same (HM.out _))); clear hK K))); (refine wpStill_step (fun K hK => ?_); go_simp; (try (go_ints; try go_simp)); first | (refine hK _ ?_; clear hK K) | (apply Exists.intro; refine ⟨?_, hK _ ?_⟩; ((go_at_call 148; exact still_same (HM.out _))); clear hK K) | (simp only [↓IntWalk.iteOmega]; (try go_simp); (try (go_ints; try go_simp)); first | (refine hK _ ?_; clear hK K) | (apply Exists.intro; refine ⟨?_, hK _ ?_⟩; ((go_at_call 148; exact still_same (HM.out _))); clear hK K))); (refine wpStill_step (fun K hK => ?_); go_simp; (try (go_ints; try go_simp)); first | (refine hK _ ?_; clear hK K) | (apply Exists.intro; refine ⟨?_, hK _ ?_⟩; ((go_at_call 148; exact still_same (HM.out _))); clear hK K) | (simp only [↓IntWalk.iteOmega]; (try go_simp); (try (go_ints; try go_simp)); first | (refine hK _ ?_; clear hK K) | (apply Exists.intro; refine ⟨?_, hK _ ?_⟩; ((go_at_call 148; exact still_same (HM.out _))); clear hK K))); (refine wpStill_step (fun K hK => ?_); go_simp; (try (go_ints; try go_simp)); first | (refine hK _ ?_; clear hK K) | (apply Exists.intro; refine ⟨?_, hK _ ?_⟩; ((go_at_call 148; exact still_same (HM.out _))); clear hK K) | (simp only [↓IntWalk.iteOmega]; (try go_simp); (try (go_ints; try go_simp)); first | (refine hK _ ?_; clear hK K) | (apply Exists.intro; refine ⟨?_, hK _ ?_⟩; ((go_at_call 148; exact still_same (HM.out _))); clear hK K))); (refine wpStill_step (fun K hK => ?_); go_simp; (try (go_ints; try go_simp)); first | (refine hK _ ?_; clear hK K) | (apply Exists.intro; refine ⟨?_, hK _ ?_⟩; ((go_at_call 148; exact still_same (HM.out _))); clear hK K) | (simp only [↓IntWalk.iteOmega]; (try go_simp); (try (go_ints; try go_simp)); first | (refine hK _ ?_; clear hK K) | (apply Exists.intro; refine ⟨?_, hK _ ?_⟩; ((go_at_call 148; exact still_same (HM.out _))); clear hK K))); (refine wpStill_step (fun K hK => ?_); go_simp; (try (go_ints; try go_simp)); first | (refine hK _ ?_; clear hK K) | (apply Exists.intro; refine ⟨?_, hK _ ?_⟩; ((go_at_call 148; exact still_same (HM.out _))); clear hK K) | (simp only [↓IntWalk.iteOmega]; (try go_simp); (try (go_ints; try go_simp)); first | (refine hK _ ?_; clear hK K) | (apply Exists.intro; refine ⟨?_, hK _ ?_⟩; ((go_at_call 148; exact still_same (HM.out _))); clear hK K))); (refine wpStill_step (fun K hK => ?_); go_simp; (try (go_ints; try go_simp)); first | (refine hK _ ?_; clear hK K) | (apply Exists.intro; refine ⟨?_, hK _ ?_⟩; ((go_at_call 148; exact still_same (HM.out _))); clear hK K) | (simp only [↓IntWalk.iteOmega]; (try go_simp); (try (go_ints; try go_simp)); first | (refine hK _ ?_; clear hK K) | (apply Exists.intro; refine ⟨?_, hK _ ?_⟩; ((go_at_call 148; exact still_same (HM.out _))); clear hK K))); refine wpStill_nil ?_
      go_wp2
      exact bodyPost_ret (ret_cell rfl rfl (load_two (HR.out.two ((a : Int) / (p : Int)) ((b : Int) / (p : Int))))) rfl ⟨rfl, (by (repeat' (first | (with_reducible exact Ext.refl _) | (with_reducible assumption) | (with_reducible refine Ext.alloc ?_ _) | (with_reducible refine Ext.drew ?_) | (with_reducible refine Ext.drewN ?_ _) | (with_reducible refine Ext.setCell ?_ ?_ _) | (with_reducible refine Ext.trans ?_ (by assumption)))) <;> (first | (with_reducible assumption) | omega | (simp; done) | (simp; omega)))⟩
    · skip
      go_wp2
      refine wp_calm0 (by kernel_rfl) (by kernel_rfl) ?_; intro hgr; (refine walkQ_step (fun K hK => ?_); go_simp; (try (go_ints; try go_simp)); first | (refine hK _ ?_; clear hK K) | (apply Exists.intro; refine ⟨fun _ => ?_, hK _ ?_⟩; (fail); clear hK K) | (simp only [↓IntWalk.iteOmega]; (try go_simp); (try (go_ints; try go_simp)); first | (refine hK _ ?_; clear hK K) | (apply Exists.intro; refine ⟨fun _ => ?_, hK _ ?_⟩; (fail); clear hK K))); (refine walkQ_step (fun K hK => ?_); go_simp; (try (go_ints; try go_simp)); first | (refine hK _ ?_; clear hK K) | (apply Exists.intro; refine ⟨fun _ => ?_, hK _ ?_⟩; (fail); clear hK K) | (simp only [↓IntWalk.iteOmega]; (try go_simp); (try (go_ints; try go_simp)); first | (refine hK _ ?_; clear hK K) | (apply Exists.intro; refine ⟨fun _ => ?_, hK _ ?_⟩; (fail); clear hK K))); (refine walkQ_step (fun K hK => ?_); go_simp; (try (go_ints; try go_simp)); first | (refine hK _ ?_; clear hK K) | (apply Exists.intro; refine ⟨fun _ => ?_, hK _ ?_⟩; (fail); clear hK K) | (simp only [↓IntWalk.iteOmega]; (try go_simp); (try (go_ints; try go_simp)); first | (refine hK _ ?_; clear hK K) | (apply Exists.intro; refine ⟨fun _ => ?_, hK _ ?_⟩; (fail); clear hK K))); (refine walkQ_step (fun K hK => ?_); go_simp; (try (go_ints; try go_simp)); first | (refine hK _ ?_; clear hK K) | (apply Exists.intro; refine ⟨fun _ => ?_, hK _ ?_⟩; (fail); clear hK K) | (simp only [↓IntWalk.iteOmega]; (try go_simp); (try (go_ints; try go_simp)); first | (refine hK _ ?_; clear hK K) | (apply Exists.intro; refine ⟨fun _ => ?_, hK _ ?_⟩; (fail); clear hK K))); (refine walkQ_step (fun K hK => ?_); go_simp; (try (go_ints; try go_simp)); first | (refine hK _ ?_; clear hK K) | (apply Exists.intro; refine ⟨fun _ => ?_, hK _ ?_⟩; (fail); clear hK K) | (simp only [↓IntWalk.iteOmega]; (try go_simp); (try (go_ints; try go_simp)); first | (refine hK _ ?_; clear hK K) | (apply Exists.intro; refine ⟨fun _ => ?_, hK _ ?_⟩; (fail); clear hK K))); (refine walkQ_step (fun K hK => ?_); go_simp; (try (go_ints; try go_simp)); first | (refine hK _ ?_; clear hK K) | (apply Exists.intro; refine ⟨fun _ => ?_, hK _ ?_⟩; (fail); clear hK K) | (simp only [↓IntWalk.iteOmega]; (try go_simp); (try (go_ints; try go_simp)); first | (refine hK _ ?_; clear hK K) | (apply Exists.intro; refine ⟨fun _ => ?_, hK _ ?_⟩; (fail); clear hK K))); refine walkQ_nil ?_; clear hgr; intro w1 hE; have hc2 := hE.cells; have hf2 := hE.frees; have hz2 := hE.size
      replace hE : Ext wo w1 := ((Ext.refl wo).drew).trans hE
      have HR1 := Lib.hid (HR.out.ext hE hz)
      have hs := hE.size
      go_wp2
      refine ⟨⟨q, p % q, rfl, by go_num, (gcd_step h0).trans HG.out, hq, ?_, (by (repeat' (first | (with_reducible exact Ext.refl _) | (with_reducible assumption) | (with_reducible refine Ext.alloc ?_ _) | (with_reducible refine Ext.drew ?_) | (with_reducible refine Ext.drewN ?_ _) | (with_reducible refine Ext.setCell ?_ ?_ _) | (with_reducible refine Ext.trans ?_ (by assumption)))) <;> (first | (with_reducible assumption) | omega | (simp; done) | (simp; omega))), HR1.out, by omega⟩, ?_⟩
      · have := Nat.mod_lt p (Nat.pos_of_ne_zero h0); omega
      · have := Nat.mod_lt p (Nat.pos_of_ne_zero h0); simp [intOf]; omega
theorem and_le (a b : Nat) : a &&& b ≤ b := Nat.and_le_right
theorem onesCount_n (n : Nat) (hn : n < 68719476736) (w : World) : Calls Try.prog 146 #[.int .u64 (n : Int)] w fun e w' => e = .returned (.int .i64 (cnt n : Nat)) ∧ w = w' := by
  obtain ⟨x1, h1⟩ : ∃ x, x = s1 M1 n := ⟨_, rfl⟩
  obtain ⟨x2, h2⟩ : ∃ x, x = s2 M2 x1 := ⟨_, rfl⟩
  obtain ⟨x3, h3⟩ : ∃ x, x = s3 M3 x2 := ⟨_, rfl⟩
  obtain ⟨x4, h4⟩ : ∃ x, x = x3 + x3 / 256 := ⟨_, rfl⟩
  obtain ⟨x5, h5⟩ : ∃ x, x = x4 + x4 / 65536 := ⟨_, rfl⟩
  obtain ⟨x6, h6⟩ : ∃ x, x = x5 + x5 / 4294967296 := ⟨_, rfl⟩
  have hp := pop_cnt hn x4 x5 x6 (by rw [← h1, ← h2, ← h3]; exact h4) h5 h6
  have b1 : x1 ≤ 12297829382473034410 := by rw [h1]; unfold s1; have := and_le (n / 2) M1; have := and_le n M1; unfold M1 at *; omega
  have b2 : x2 ≤ 7378697629483820646 := by rw [h2]; unfold s2; have := and_le (x1 / 4) M2; have := and_le x1 M2; unfold M2 at *; omega
  have b3 : x3 ≤ 1085102592571150095 := by rw [h3]; unfold s3; exact and_le _ _
  unfold s1 at h1
  unfold s2 at h2
  unfold s3 at h3
  have e1 : IntKind.u64.wrap (bits .and .u64 ((n : Int) / 2) 6148914691236517205 + bits .and .u64 (n : Int) 6148914691236517205) = (x1 : Nat) := by
    have q1 : bits .and .u64 ((n : Int) / 2) 6148914691236517205 = ((n / 2 &&& M1 : Nat) : Int) := u64_and_nat (n / 2) M1 (by omega) (by unfold M1; omega)
    have q2 : bits .and .u64 (n : Int) 6148914691236517205 = ((n &&& M1 : Nat) : Int) := u64_and_nat n M1 (by omega) (by unfold M1; omega)
    rw [q1, q2, ← Int.natCast_add, ← h1]
    exact IntWalk.u64_in _ (by omega)
  have e2 : IntKind.u64.wrap (bits .and .u64 ((x1 : Int) / 4) 3689348814741910323 + bits .and .u64 (x1 : Int) 3689348814741910323) = (x2 : Nat) := by
    have q1 : bits .and .u64 ((x1 : Int) / 4) 3689348814741910323 = ((x1 / 4 &&& M2 : Nat) : Int) := u64_and_nat (x1 / 4) M2 (by omega) (by unfold M2; omega)
    have q2 : bits .and .u64 (x1 : Int) 3689348814741910323 = ((x1 &&& M2 : Nat) : Int) := u64_and_nat x1 M2 (by omega) (by unfold M2; omega)
    rw [q1, q2, ← Int.natCast_add, ← h2]
    exact IntWalk.u64_in _ (by omega)
  have e3 : bits .and .u64 (IntKind.u64.wrap ((x2 : Int) / 16 + (x2 : Int))) 1085102592571150095 = (x3 : Nat) := by
    rw [IntWalk.u64_in _ (by omega), h3]
    exact u64_and_nat (x2 / 16 + x2) M3 (by omega) (by unfold M3; omega)
  have e4 : IntKind.u64.wrap ((x3 : Int) + (x3 : Int) / 256) = (x4 : Nat) := by
    rw [IntWalk.u64_in _ (by omega), h4]
    omega
  have b4 : x4 ≤ 2170205185142300190 := by omega
  have e5 : IntKind.u64.wrap ((x4 : Int) + (x4 : Int) / 65536) = (x5 : Nat) := by
    rw [IntWalk.u64_in _ (by omega), h5]
    omega
  have b5 : x5 ≤ 3255307777713450285 := by omega
  have e6 : IntKind.u64.wrap ((x5 : Int) + (x5 : Int) / 4294967296) = (x6 : Nat) := by
    rw [IntWalk.u64_in _ (by omega), h6]
    omega
  have b6 : x6 ≤ 4340410370284600380 := by omega
  have e7 : wrap64 (x6 : Int) = (x6 : Int) := IntWalk.wrap64_in _ (by clear h1 h2 h3 h4 h5 h6 hp b1 b2 b3 b4 b5; omega)
  have e8 : bits .and .i64 (x6 : Int) 127 = ((cnt n : Nat) : Int) := by
    rw [← hp]
    have b7 : x6 < 9223372036854775808 := Nat.lt_of_le_of_lt b6 (by decide)
    refine (iand x6 127 b7 (by decide)).trans (nat_int ?_)
    exact Nat.and_two_pow_sub_one_eq_mod x6 7
  clear b1 b2 b3 b4 b5 b6 h1 h2 h3 h4 h5 h6 hp
  go_enter Try.func146, Try.ntmps146
  go_wp2
  go_returns
  exact ⟨rfl, rfl⟩
theorem size_n (n : Nat) (hn : n < 68719476736) (w : World) : Calls Try.prog 99 #[.int .u64 (n : Int)] w fun e w' => e = .returned (.int .i64 (cnt n : Nat)) ∧ w = w' := by
  go_enter Try.func99, Try.ntmps99
  go_wp2_with (go_at_call 146; refine (onesCount_n n hn _).mono ?_; rintro e w' ⟨rfl, rfl⟩)
  go_returns
  exact ⟨rfl, rfl⟩
end Go.Proofs.Ytlifhoajamnehaa
set_option linter.unusedVariables false
set_option linter.unusedSimpArgs false
set_option maxRecDepth 100000
set_option maxHeartbeats 4000000
namespace Go.Proofs.Ytlifhoajamnehaa
open Go Go.RowKit Instr
theorem ShrinkSheet_bad (r s : Nat → Int) (h : (vs r && vs s) = false) (w : World) : Calls Try.prog 43 #[(.agg #[.int .i64 (r 0), .int .i64 (r 1), .int .i64 (r 2), .int .i64 (r 3), .int .i64 (r 4), .int .i64 (r 5)]), (.agg #[.int .i64 (s 0), .int .i64 (s 1), .int .i64 (s 2), .int .i64 (s 3), .int .i64 (s 4), .int .i64 (s 5)])] w fun e w' => e = .returned (.tuple #[(.agg #[.int .i64 0, .int .i64 0, .int .i64 0, .int .i64 0, .int .i64 0, .int .i64 0]), .bool false]) ∧ Ext w w' := by
  have H := Lib.hid h
  clear h
  skip
  go_enter Try.func43, Try.ntmps43
  go_wp2_with (go_at_call 110; refine (ofTwo_bad _ r s H.out _).mono ?_; rintro e w1 ⟨rfl, hE⟩; replace HR := Lib.hid ((show Arr _ (w.heap.size + 2) (fun _ => 0) by first | exact HR.out | exact Arr.new _ (fun _ => 0) _ (by first | rfl | (simp; done) | (simp; omega))).ext hE (by first | exact lR | (simp; done) | (simp; omega))); replace lR : w.heap.size + 2 < w1.heap.size := Nat.lt_of_lt_of_le (by first | exact lR | (simp; done) | (simp; omega)) hE.size; (try clear d0 d1 d2 d3 d4 d5 f0 f1 f2 f3 f4 f5); obtain ⟨⟨d0, d1, d2, d3, d4, d5⟩, f0, f1, f2, f3, f4, f5⟩ := HR.out.all; replace k0_0 : w1.cell? ⟨w.heap.size, 0, none⟩ = some (.int .i64 (r 0)) := (hE.cells _ _ (by first | exact l0 | (simp; done) | (simp; omega))).trans (by first | exact k0_0 | (go_simp; done)); replace k0_1 : w1.cell? ⟨w.heap.size, 1, none⟩ = some (.int .i64 (r 1)) := (hE.cells _ _ (by first | exact l0 | (simp; done) | (simp; omega))).trans (by first | exact k0_1 | (go_simp; done)); replace k0_2 : w1.cell? ⟨w.heap.size, 2, none⟩ = some (.int .i64 (r 2)) := (hE.cells _ _ (by first | exact l0 | (simp; done) | (simp; omega))).trans (by first | exact k0_2 | (go_simp; done)); replace k0_3 : w1.cell? ⟨w.heap.size, 3, none⟩ = some (.int .i64 (r 3)) := (hE.cells _ _ (by first | exact l0 | (simp; done) | (simp; omega))).trans (by first | exact k0_3 | (go_simp; done)); replace k0_4 : w1.cell? ⟨w.heap.size, 4, none⟩ = some (.int .i64 (r 4)) := (hE.cells _ _ (by first | exact l0 | (simp; done) | (simp; omega))).trans (by first | exact k0_4 | (go_simp; done)); replace k0_5 : w1.cell? ⟨w.heap.size, 5, none⟩ = some (.int .i64 (r 5)) := (hE.cells _ _ (by first | exact l0 | (simp; done) | (simp; omega))).trans (by first | exact k0_5 | (go_simp; done)); replace k1_0 : w1.cell? ⟨w.heap.size + 1, 0, none⟩ = some (.int .i64 (s 0)) := (hE.cells _ _ (by first | exact l1 | (simp; done) | (simp; omega))).trans (by first | exact k1_0 | (go_simp; done)); replace k1_1 : w1.cell? ⟨w.heap.size + 1, 1, none⟩ = some (.int .i64 (s 1)) := (hE.cells _ _ (by first | exact l1 | (simp; done) | (simp; omega))).trans (by first | exact k1_1 | (go_simp; done)); replace k1_2 : w1.cell? ⟨w.heap.size + 1, 2, none⟩ = some (.int .i64 (s 2)) := (hE.cells _ _ (by first | exact l1 | (simp; done) | (simp; omega))).trans (by first | exact k1_2 | (go_simp; done)); replace k1_3 : w1.cell? ⟨w.heap.size + 1, 3, none⟩ = some (.int .i64 (s 3)) := (hE.cells _ _ (by first | exact l1 | (simp; done) | (simp; omega))).trans (by first | exact k1_3 | (go_simp; done)); replace k1_4 : w1.cell? ⟨w.heap.size + 1, 4, none⟩ = some (.int .i64 (s 4)) := (hE.cells _ _ (by first | exact l1 | (simp; done) | (simp; omega))).trans (by first | exact k1_4 | (go_simp; done)); replace k1_5 : w1.cell? ⟨w.heap.size + 1, 5, none⟩ = some (.int .i64 (s 5)) := (hE.cells _ _ (by first | exact l1 | (simp; done) | (simp; omega))).trans (by first | exact k1_5 | (go_simp; done)); replace l0 : w.heap.size < w1.heap.size := Nat.lt_of_lt_of_le (by first | exact l0 | (simp; done) | (simp; omega)) hE.size; replace l1 : w.heap.size + 1 < w1.heap.size := Nat.lt_of_lt_of_le (by first | exact l1 | (simp; done) | (simp; omega)) hE.size)
  exact bodyPost_ret (ret_cell_tmp rfl rfl rfl (load_sheet (HR.out.six (fun _ => 0)))) rfl ⟨rfl, (by (repeat' (first | (with_reducible exact Ext.refl _) | (with_reducible assumption) | (with_reducible refine Ext.alloc ?_ _) | (with_reducible refine Ext.drew ?_) | (with_reducible refine Ext.drewN ?_ _) | (with_reducible refine Ext.setCell ?_ ?_ _) | (with_reducible refine Ext.trans ?_ (by assumption)))) <;> (first | (with_reducible assumption) | omega | (simp; done) | (simp; omega)))⟩
theorem ShrinkSheet_ok (n m : Nat) (hn : n < 68719476736) (hm : m < 68719476736) (w : World) : Calls Try.prog 43 #[(.agg #[.int .i64 (rw n 0), .int .i64 (rw n 1), .int .i64 (rw n 2), .int .i64 (rw n 3), .int .i64 (rw n 4), .int .i64 (rw n 5)]), (.agg #[.int .i64 (rw m 0), .int .i64 (rw m 1), .int .i64 (rw m 2), .int .i64 (rw m 3), .int .i64 (rw m 4), .int .i64 (rw m 5)])] w fun e w' => e = .returned (.tuple #[(.agg #[.int .i64 (rw (shr n m) 0), .int .i64 (rw (shr n m) 1), .int .i64 (rw (shr n m) 2), .int .i64 (rw (shr n m) 3), .int .i64 (rw (shr n m) 4), .int .i64 (rw (shr n m) 5)]), .bool true]) ∧ Ext w w' := by
  have HC := Lib.hid (fun w => ofTwo_n 111 n m (shr n m) hn hm (shr_lt _ _) w Try.call111 (fun w => shrunk_n n m hn hm w))
  generalize shr n m = z at *
  skip
  go_enter Try.func43, Try.ntmps43
  go_wp2_with (go_at_call 110; refine (HC.out _).mono ?_; rintro e w1 ⟨rfl, hE⟩; replace HR := Lib.hid ((show Arr _ (w.heap.size + 2) (fun _ => 0) by first | exact HR.out | exact Arr.new _ (fun _ => 0) _ (by first | rfl | (simp; done) | (simp; omega))).ext hE (by first | exact lR | (simp; done) | (simp; omega))); replace lR : w.heap.size + 2 < w1.heap.size := Nat.lt_of_lt_of_le (by first | exact lR | (simp; done) | (simp; omega)) hE.size; (try clear d0 d1 d2 d3 d4 d5 f0 f1 f2 f3 f4 f5); obtain ⟨⟨d0, d1, d2, d3, d4, d5⟩, f0, f1, f2, f3, f4, f5⟩ := HR.out.all; replace k0_0 : w1.cell? ⟨w.heap.size, 0, none⟩ = some (.int .i64 (rw n 0)) := (hE.cells _ _ (by first | exact l0 | (simp; done) | (simp; omega))).trans (by first | exact k0_0 | (go_simp; done)); replace k0_1 : w1.cell? ⟨w.heap.size, 1, none⟩ = some (.int .i64 (rw n 1)) := (hE.cells _ _ (by first | exact l0 | (simp; done) | (simp; omega))).trans (by first | exact k0_1 | (go_simp; done)); replace k0_2 : w1.cell? ⟨w.heap.size, 2, none⟩ = some (.int .i64 (rw n 2)) := (hE.cells _ _ (by first | exact l0 | (simp; done) | (simp; omega))).trans (by first | exact k0_2 | (go_simp; done)); replace k0_3 : w1.cell? ⟨w.heap.size, 3, none⟩ = some (.int .i64 (rw n 3)) := (hE.cells _ _ (by first | exact l0 | (simp; done) | (simp; omega))).trans (by first | exact k0_3 | (go_simp; done)); replace k0_4 : w1.cell? ⟨w.heap.size, 4, none⟩ = some (.int .i64 (rw n 4)) := (hE.cells _ _ (by first | exact l0 | (simp; done) | (simp; omega))).trans (by first | exact k0_4 | (go_simp; done)); replace k0_5 : w1.cell? ⟨w.heap.size, 5, none⟩ = some (.int .i64 (rw n 5)) := (hE.cells _ _ (by first | exact l0 | (simp; done) | (simp; omega))).trans (by first | exact k0_5 | (go_simp; done)); replace k1_0 : w1.cell? ⟨w.heap.size + 1, 0, none⟩ = some (.int .i64 (rw m 0)) := (hE.cells _ _ (by first | exact l1 | (simp; done) | (simp; omega))).trans (by first | exact k1_0 | (go_simp; done)); replace k1_1 : w1.cell? ⟨w.heap.size + 1, 1, none⟩ = some (.int .i64 (rw m 1)) := (hE.cells _ _ (by first | exact l1 | (simp; done) | (simp; omega))).trans (by first | exact k1_1 | (go_simp; done)); replace k1_2 : w1.cell? ⟨w.heap.size + 1, 2, none⟩ = some (.int .i64 (rw m 2)) := (hE.cells _ _ (by first | exact l1 | (simp; done) | (simp; omega))).trans (by first | exact k1_2 | (go_simp; done)); replace k1_3 : w1.cell? ⟨w.heap.size + 1, 3, none⟩ = some (.int .i64 (rw m 3)) := (hE.cells _ _ (by first | exact l1 | (simp; done) | (simp; omega))).trans (by first | exact k1_3 | (go_simp; done)); replace k1_4 : w1.cell? ⟨w.heap.size + 1, 4, none⟩ = some (.int .i64 (rw m 4)) := (hE.cells _ _ (by first | exact l1 | (simp; done) | (simp; omega))).trans (by first | exact k1_4 | (go_simp; done)); replace k1_5 : w1.cell? ⟨w.heap.size + 1, 5, none⟩ = some (.int .i64 (rw m 5)) := (hE.cells _ _ (by first | exact l1 | (simp; done) | (simp; omega))).trans (by first | exact k1_5 | (go_simp; done)); replace l0 : w.heap.size < w1.heap.size := Nat.lt_of_lt_of_le (by first | exact l0 | (simp; done) | (simp; omega)) hE.size; replace l1 : w.heap.size + 1 < w1.heap.size := Nat.lt_of_lt_of_le (by first | exact l1 | (simp; done) | (simp; omega)) hE.size)
  exact bodyPost_ret (ret_cell_tmp rfl rfl rfl (load_sheet (HR.out.six (rw z)))) rfl ⟨rfl, (by (repeat' (first | (with_reducible exact Ext.refl _) | (with_reducible assumption) | (with_reducible refine Ext.alloc ?_ _) | (with_reducible refine Ext.drew ?_) | (with_reducible refine Ext.drewN ?_ _) | (with_reducible refine Ext.setCell ?_ ?_ _) | (with_reducible refine Ext.trans ?_ (by assumption)))) <;> (first | (with_reducible assumption) | omega | (simp; done) | (simp; omega)))⟩
end Go.Proofs.Ytlifhoajamnehaa
set_option linter.unusedVariables false
set_option linter.unusedSimpArgs false
set_option maxRecDepth 100000
set_option maxHeartbeats 4000000
namespace Go.Proofs.Ytlifhoajamnehaa
open Go Go.RowKit Instr
def rfI (L : List Nat) : Nat := L.foldl (fun o k => o ^^^ 2 ^ (neg6 k)) 0
theorem rfI_app (L : List Nat) (k : Nat) : rfI (L ++ [k]) = rfI L ^^^ 2 ^ (neg6 k) := by unfold rfI; rw [List.foldl_append]; rfl
theorem rfI_step (L : List Nat) (j k : Nat) (h : L[j]? = some k) : rfI (L.take (j + 1)) = rfI (L.take j) ^^^ 2 ^ (neg6 k) := by
  rw [List.take_add_one, h]
  exact rfI_app _ _
theorem rfI_bit (m : Nat) (j : Nat) (hj : j < 36) : ∀ k, k ≤ 36 → ((rfI (fl m.testBit k)).testBit j = true ↔ (neg6 j < k ∧ m.testBit (neg6 j) = true))
  | 0, _ => by
    have : rfI (fl m.testBit 0) = 0 := rfl
    rw [this, Nat.zero_testBit]
    exact ⟨fun h => (by cases h), fun h => absurd h.1 (Nat.not_lt_zero _)⟩
  | k + 1, hk => by
    have ih := rfI_bit m j hj k (by omega)
    cases hp : m.testBit k
    · rw [fl_miss hp, ih]
      constructor
      · rintro ⟨h1, h2⟩; exact ⟨by omega, h2⟩
      · rintro ⟨h1, h2⟩
        rcases Nat.lt_or_ge (neg6 j) k with h | h
        · exact ⟨h, h2⟩
        · have : neg6 j = k := by omega
          rw [this, hp] at h2
          cases h2
    · rw [fl_hit hp, rfI_app, Nat.testBit_xor, Nat.testBit_two_pow]
      by_cases e : neg6 j = k
      · subst e
        have h1 : (rfI (fl m.testBit (neg6 j))).testBit j = false := by
          rw [← Bool.not_eq_true]
          intro h
          have := (ih.1 h).1
          omega
        rw [h1, neg_neg6 hj, decide_eq_true rfl]
        simp [hp]
      · have h2 : decide (neg6 k = j) = false := decide_eq_false fun h => e (by rw [← h, neg_neg6 (by omega)])
        rw [h2, Bool.xor_false, ih]
        constructor
        · rintro ⟨h1, h3⟩; exact ⟨by omega, h3⟩
        · rintro ⟨h1, h3⟩; exact ⟨by omega, h3⟩
theorem rfI_lt : ∀ (L : List Nat) (o : Nat), o < 68719476736 → L.foldl (fun o k => o ^^^ 2 ^ (neg6 k)) o < 68719476736
  | [], o, h => h
  | k :: L, o, h => by rw [List.foldl_cons]; exact rfI_lt L _ (xor36 h (pow36 (neg6_lt k)))
theorem rfI_all (m : Nat) : rfI (fl m.testBit 36) = refl6 m := ext36 (rfI_lt _ _ (by omega)) (refl6_lt m) fun j hj => by
  refine bool_of_iff ?_
  rw [rfI_bit m j hj 36 (Nat.le_refl _), bit_refl m j hj]
  exact ⟨fun h => h.2, fun h => ⟨neg6_lt j, h⟩⟩
theorem m6_sx : ∀ a : Nat, a < 6 → m6 (-(a : Int)) = sx 0 a := by decide
theorem neg6_xy (k : Nat) (hk : k < 36) : 6 * m6 (-((k / 6 : Nat) : Int)) + m6 (-((k % 6 : Nat) : Int)) = neg6 k := by
  rw [m6_sx _ (lt6x k), m6_sx _ (lt6y hk), Nat.add_comm]
  rfl
theorem mv_refl (m : Nat) : mvN m (fun k => m6 (-((k / 6 : Nat) : Int)) * 6 + m6 (-((k % 6 : Nat) : Int))) 36 = refl6 m :=
  ext36 (mvN_lt _ _ _ fun k hk => by have := neg6_xy k hk; have := neg6_lt k; show _ < 36; omega) (refl6_lt m) fun j hj => by
    refine bool_of_iff ?_
    rw [testBit_mvN, bit_refl m j hj]
    constructor
    · rintro ⟨k, hk, h1, h2⟩
      have e := neg6_xy k hk
      have : neg6 k = j := by rw [← h2, ← e, Nat.mul_comm]
      rw [← this, neg_neg6 hk]
      exact h1
    · intro h
      have e := neg6_xy (neg6 j) (neg6_lt j)
      rw [neg_neg6 hj] at e
      exact ⟨neg6 j, neg6_lt j, h, by rw [Nat.mul_comm]; exact e⟩
theorem sReflectSheet_bad (r : Nat → Int) (h : vs r = false) (w : World) : Calls Try.prog 118 #[(.agg #[.int .i64 (r 0), .int .i64 (r 1), .int .i64 (r 2), .int .i64 (r 3), .int .i64 (r 4), .int .i64 (r 5)])] w fun e w' => e = .returned (.tuple #[(.agg #[.int .i64 0, .int .i64 0, .int .i64 0, .int .i64 0, .int .i64 0, .int .i64 0]), .bool false]) ∧ Ext w w' := by
  have HT := Lib.hid (fun w => l2Sheet_is r _ h w)
  clear h
  skip
  go_enter Try.func118, Try.ntmps118
  go_wp2_with (go_at_call 75; refine (HT.out _).mono ?_; rintro e w1 ⟨rfl, hE⟩; replace HR := Lib.hid ((show Arr _ (w.heap.size + 1) (fun _ => 0) by first | exact HR.out | exact Arr.new _ (fun _ => 0) _ (by first | rfl | (simp; done) | (simp; omega))).ext hE (by first | exact lR | (simp; done) | (simp; omega))); replace lR : w.heap.size + 1 < w1.heap.size := Nat.lt_of_lt_of_le (by first | exact lR | (simp; done) | (simp; omega)) hE.size; (try clear d0 d1 d2 d3 d4 d5 f0 f1 f2 f3 f4 f5); obtain ⟨⟨d0, d1, d2, d3, d4, d5⟩, f0, f1, f2, f3, f4, f5⟩ := HR.out.all; replace k0_0 : w1.cell? ⟨w.heap.size, 0, none⟩ = some (.int .i64 (r 0)) := (hE.cells _ _ (by first | exact l0 | (simp; done) | (simp; omega))).trans (by first | exact k0_0 | (go_simp; done)); replace k0_1 : w1.cell? ⟨w.heap.size, 1, none⟩ = some (.int .i64 (r 1)) := (hE.cells _ _ (by first | exact l0 | (simp; done) | (simp; omega))).trans (by first | exact k0_1 | (go_simp; done)); replace k0_2 : w1.cell? ⟨w.heap.size, 2, none⟩ = some (.int .i64 (r 2)) := (hE.cells _ _ (by first | exact l0 | (simp; done) | (simp; omega))).trans (by first | exact k0_2 | (go_simp; done)); replace k0_3 : w1.cell? ⟨w.heap.size, 3, none⟩ = some (.int .i64 (r 3)) := (hE.cells _ _ (by first | exact l0 | (simp; done) | (simp; omega))).trans (by first | exact k0_3 | (go_simp; done)); replace k0_4 : w1.cell? ⟨w.heap.size, 4, none⟩ = some (.int .i64 (r 4)) := (hE.cells _ _ (by first | exact l0 | (simp; done) | (simp; omega))).trans (by first | exact k0_4 | (go_simp; done)); replace k0_5 : w1.cell? ⟨w.heap.size, 5, none⟩ = some (.int .i64 (r 5)) := (hE.cells _ _ (by first | exact l0 | (simp; done) | (simp; omega))).trans (by first | exact k0_5 | (go_simp; done)); replace l0 : w.heap.size < w1.heap.size := Nat.lt_of_lt_of_le (by first | exact l0 | (simp; done) | (simp; omega)) hE.size)
  exact bodyPost_ret (ret_cell_tmp rfl rfl rfl (load_sheet (HR.out.six (fun _ => 0)))) rfl ⟨rfl, (by (repeat' (first | (with_reducible exact Ext.refl _) | (with_reducible assumption) | (with_reducible refine Ext.alloc ?_ _) | (with_reducible refine Ext.drew ?_) | (with_reducible refine Ext.drewN ?_ _) | (with_reducible refine Ext.setCell ?_ ?_ _) | (with_reducible refine Ext.trans ?_ (by assumption)))) <;> (first | (with_reducible assumption) | omega | (simp; done) | (simp; omega)))⟩
theorem sReflectSheet_ok (m : Nat) (w : World) : Calls Try.prog 118 #[(.agg #[.int .i64 (rw m 0), .int .i64 (rw m 1), .int .i64 (rw m 2), .int .i64 (rw m 3), .int .i64 (rw m 4), .int .i64 (rw m 5)])] w fun e w' => e = .returned (.tuple #[(.agg #[.int .i64 (rw (refl6 m) 0), .int .i64 (rw (refl6 m) 1), .int .i64 (rw (refl6 m) 2), .int .i64 (rw (refl6 m) 3), .int .i64 (rw (refl6 m) 4), .int .i64 (rw (refl6 m) 5)]), .bool true]) ∧ Ext w w' := by
  have HL := Lib.hid (fun w => l2Cells_n m w)
  have hlen := fl_le m.testBit 36
  have HG := Lib.hid (fun i k (h : (fl m.testBit 36)[i]? = some k) => fl_lt h)
  rw [← rfI_all m]
  generalize fl m.testBit 36 = L at *
  skip
  go_enter Try.func118, Try.ntmps118
  go_wp2_with (first | (go_at_call 75; refine (l2Sheet_n m _).mono ?_; rintro e w1 ⟨rfl, hE⟩; replace HR := Lib.hid ((show Arr _ (w.heap.size + 1) (fun _ => 0) by first | exact HR.out | exact Arr.new _ (fun _ => 0) _ (by first | rfl | (simp; done) | (simp; omega))).ext hE (by first | exact lR | (simp; done) | (simp; omega))); replace lR : w.heap.size + 1 < w1.heap.size := Nat.lt_of_lt_of_le (by first | exact lR | (simp; done) | (simp; omega)) hE.size; (try clear d0 d1 d2 d3 d4 d5 f0 f1 f2 f3 f4 f5); obtain ⟨⟨d0, d1, d2, d3, d4, d5⟩, f0, f1, f2, f3, f4, f5⟩ := HR.out.all; replace HB := Lib.hid ((show Arr _ (w.heap.size) (rw m) by first | with_reducible exact HB.out | with_reducible exact Arr.ext HB.out ((Ext.refl _).alloc _) lHB | with_reducible exact Arr.ext HB.out (((Ext.refl _).alloc _).alloc _) lHB | with_reducible exact Arr.ext HB.out ((((Ext.refl _).alloc _).alloc _).alloc _) lHB | exact HB.out | exact Arr.new _ (rw m) _ (by first | rfl | (simp; done) | (simp; omega)) | exact (Arr.new _ (rw m) _ (by first | rfl | (simp; done) | (simp; omega))).ext ((Ext.refl _).alloc _) (by first | (simp; done) | (simp; omega)) | exact ((Arr.new _ (rw m) _ (by first | rfl | (simp; done) | (simp; omega))).ext ((Ext.refl _).alloc _) (by first | (simp; done) | (simp; omega))).ext ((Ext.refl _).alloc _) (by first | (simp; done) | (simp; omega)) | exact (((Arr.new _ (rw m) _ (by first | rfl | (simp; done) | (simp; omega))).ext ((Ext.refl _).alloc _) (by first | (simp; done) | (simp; omega))).ext ((Ext.refl _).alloc _) (by first | (simp; done) | (simp; omega))).ext ((Ext.refl _).alloc _) (by first | (simp; done) | (simp; omega))).ext hE (by first | exact lHB | (simp; done) | (simp; omega))); replace lHB : w.heap.size < w1.heap.size := Nat.lt_of_lt_of_le (by first | exact lHB | (simp; done) | (simp; omega)) hE.size; (try clear HB0 HB1 HB2 HB3 HB4 HB5); obtain ⟨⟨HB0, HB1, HB2, HB3, HB4, HB5⟩, _⟩ := HB.out.all) | (go_at_call 152; refine (HL.out _).mono ?_; rintro e w1 ⟨v, rfl, hE, ho⟩; skip; replace HR := Lib.hid ((show Arr _ (w.heap.size + 1) (fun _ => 0) by first | exact HR.out | exact Arr.new _ (fun _ => 0) _ (by first | rfl | (simp; done) | (simp; omega))).ext hE (by first | exact lR | (simp; done) | (simp; omega))); replace lR : w.heap.size + 1 < w1.heap.size := Nat.lt_of_lt_of_le (by first | exact lR | (simp; done) | (simp; omega)) hE.size; (try clear d0 d1 d2 d3 d4 d5 f0 f1 f2 f3 f4 f5); obtain ⟨⟨d0, d1, d2, d3, d4, d5⟩, f0, f1, f2, f3, f4, f5⟩ := HR.out.all; replace HB := Lib.hid ((show Arr _ (w.heap.size) (rw m) by first | with_reducible exact HB.out | with_reducible exact Arr.ext HB.out ((Ext.refl _).alloc _) lHB | with_reducible exact Arr.ext HB.out (((Ext.refl _).alloc _).alloc _) lHB | with_reducible exact Arr.ext HB.out ((((Ext.refl _).alloc _).alloc _).alloc _) lHB | exact HB.out | exact Arr.new _ (rw m) _ (by first | rfl | (simp; done) | (simp; omega)) | exact (Arr.new _ (rw m) _ (by first | rfl | (simp; done) | (simp; omega))).ext ((Ext.refl _).alloc _) (by first | (simp; done) | (simp; omega)) | exact ((Arr.new _ (rw m) _ (by first | rfl | (simp; done) | (simp; omega))).ext ((Ext.refl _).alloc _) (by first | (simp; done) | (simp; omega))).ext ((Ext.refl _).alloc _) (by first | (simp; done) | (simp; omega)) | exact (((Arr.new _ (rw m) _ (by first | rfl | (simp; done) | (simp; omega))).ext ((Ext.refl _).alloc _) (by first | (simp; done) | (simp; omega))).ext ((Ext.refl _).alloc _) (by first | (simp; done) | (simp; omega))).ext ((Ext.refl _).alloc _) (by first | (simp; done) | (simp; omega))).ext hE (by first | exact lHB | (simp; done) | (simp; omega))); replace lHB : w.heap.size < w1.heap.size := Nat.lt_of_lt_of_le (by first | exact lHB | (simp; done) | (simp; omega)) hE.size; (try clear HB0 HB1 HB2 HB3 HB4 HB5); obtain ⟨⟨HB0, HB1, HB2, HB3, HB4, HB5⟩, _⟩ := HB.out.all; obtain ⟨ao, cap, rfl, hsh⟩ := own_shape ho; have HO := Lib.hid ho; clear ho; have hx0 : Ext w w1 := (by (repeat' (first | (with_reducible exact Ext.refl _) | (with_reducible assumption) | (with_reducible refine Ext.alloc ?_ _) | (with_reducible refine Ext.drew ?_) | (with_reducible refine Ext.drewN ?_ _) | (with_reducible refine Ext.setCell ?_ ?_ _) | (with_reducible refine Ext.trans ?_ (by assumption)))) <;> (first | (with_reducible assumption) | omega | (simp; done) | (simp; omega))); obtain ⟨wa, rfl⟩ : ∃ x, x = w1 := ⟨_, rfl⟩))
  skip
  obtain ⟨b, hb⟩ : ∃ b, b = wa.heap.size := ⟨_, rfl⟩
  rw [← hb]
  have HQ := Lib.hid hb
  have hbz : wa.heap.size ≤ b := by omega
  clear hb
  go_loopw [6] (fun i wr => ∃ j : Nat, j ≤ L.length ∧ i = .int .i64 j ∧ Ext wa wr ∧ Arr wr (w.heap.size + 1) (fun _ => 0) ∧ Arr wr b (rw (rfI (L.take j))) ∧ b < wr.heap.size) (fun i _ => L.length - (intOf i).toNat)
  case atStart =>
    refine ⟨0, Nat.zero_le _, rfl, (by (repeat' (first | (with_reducible exact Ext.refl _) | (with_reducible assumption) | (with_reducible refine Ext.alloc ?_ _) | (with_reducible refine Ext.drew ?_) | (with_reducible refine Ext.drewN ?_ _) | (with_reducible refine Ext.setCell ?_ ?_ _) | (with_reducible refine Ext.trans ?_ (by assumption)))) <;> (first | (with_reducible assumption) | omega | (simp; done) | (simp; omega))), HR.out.alloc _ lR, ?_, by have := HQ.out; simp; omega⟩
    exact (Arr.new0 wa 26 HQ.out).congr fun j _ => (show (0 : Int) = rw 0 j by rw [rw_nat]; unfold rowN; rw [Nat.zero_div]; rfl)
  case round =>
    obtain ⟨j, hj, rfl, hx, hr, ht, hz⟩ := hrel
    obtain ⟨wo, rfl⟩ : ∃ wo : World, wo = wr := ⟨_, rfl⟩
    clear HB HR HB0 HB1 HB2 HB3 HB4 HB5 d0 d1 d2 d3 d4 d5 f0 f1 f2 f3 f4 f5
    have HR := Lib.hid hr
    have HT := Lib.hid ht
    clear hr ht
    have hsz := hx.size
    have zr : w.heap.size + 1 < wo.heap.size := by omega
    by_cases hlt : j < L.length
    · obtain ⟨vb, rfl, _, hvb⟩ := hsh (by omega)
      obtain ⟨k, hk⟩ : ∃ k, L[j]? = some k := ⟨L[j], List.getElem?_eq_getElem hlt⟩
      have hk36 := HG.out j k hk
      have p1 := ((own_ext HO.out hx).cellAt (j * 2) (by omega)).trans (pxy_get L j k hk).1
      have p2 := ((own_ext HO.out hx).cellAt (j * 2 + 1) (by omega)).trans (pxy_get L j k hk).2
      have zv : vb < wo.heap.size := by omega
      obtain ⟨⟨t0, t1, t2, t3, t4, t5⟩, _⟩ := HT.out.all
      have H2 := Lib.hid (fun w => l2Flip_n (rfI (L.take j)) (m6 (-((k % 6 : Nat) : Int))) (m6 (-((k / 6 : Nat) : Int))) (m6_lt _) (m6_lt _) w)
      have HS := Lib.hid (rfI_step L j k hk)
      rw [neg6_xy k hk36, ← HS.out] at H2
      clear hk
      have hkx : k % 6 < 6 := by omega
      have hky : k / 6 < 6 := by omega
      have M1 := Lib.hid (fun w => l2Mod_any (-((k % 6 : Nat) : Int)) w)
      have M2 := Lib.hid (fun w => l2Mod_any (-((k / 6 : Nat) : Int)) w)
      generalize k % 6 = kx at *
      generalize k / 6 = ky at *
      generalize m6 (-(kx : Int)) = mx at *
      generalize m6 (-(ky : Int)) = my at *
      go_wp2
      refine wp_calm 16 0 (fun _ => (#[], 0)) (by kernel_rfl) (by kernel_rfl) ?_; simp only [List.take_succ_cons, List.take_zero, List.drop_succ_cons, List.drop_zero]; intro hgr; (refine walkQ_step (fun K hK => ?_); go_simp; (try (go_ints; try go_simp)); first | (refine hK _ ?_; clear hK K) | (apply Exists.intro; refine ⟨fun _ => ?_, hK _ ?_⟩; (first | (go_at_call 138; exact calm_same (M1.out _)) | (go_at_call 138; exact calm_same (M2.out _)) | (go_at_call 153; exact (H2.out _))); clear hK K) | (simp only [↓IntWalk.iteOmega]; (try go_simp); (try (go_ints; try go_simp)); first | (refine hK _ ?_; clear hK K) | (apply Exists.intro; refine ⟨fun _ => ?_, hK _ ?_⟩; (first | (go_at_call 138; exact calm_same (M1.out _)) | (go_at_call 138; exact calm_same (M2.out _)) | (go_at_call 153; exact (H2.out _))); clear hK K))); (refine walkQ_step (fun K hK => ?_); go_simp; (try (go_ints; try go_simp)); first | (refine hK _ ?_; clear hK K) | (apply Exists.intro; refine ⟨fun _ => ?_, hK _ ?_⟩; (first | (go_at_call 138; exact calm_same (M1.out _)) | (go_at_call 138; exact calm_same (M2.out _)) | (go_at_call 153; exact (H2.out _))); clear hK K) | (simp only [↓IntWalk.iteOmega]; (try go_simp); (try (go_ints; try go_simp)); first | (refine hK _ ?_; clear hK K) | (apply Exists.intro; refine ⟨fun _ => ?_, hK _ ?_⟩; (first | (go_at_call 138; exact calm_same (M1.out _)) | (go_at_call 138; exact calm_same (M2.out _)) | (go_at_call 153; exact (H2.out _))); clear hK K))); (refine walkQ_step (fun K hK => ?_); go_simp; (try (go_ints; try go_simp)); first | (refine hK _ ?_; clear hK K) | (apply Exists.intro; refine ⟨fun _ => ?_, hK _ ?_⟩; (first | (go_at_call 138; exact calm_same (M1.out _)) | (go_at_call 138; exact calm_same (M2.out _)) | (go_at_call 153; exact (H2.out _))); clear hK K) | (simp only [↓IntWalk.iteOmega]; (try go_simp); (try (go_ints; try go_simp)); first | (refine hK _ ?_; clear hK K) | (apply Exists.intro; refine ⟨fun _ => ?_, hK _ ?_⟩; (first | (go_at_call 138; exact calm_same (M1.out _)) | (go_at_call 138; exact calm_same (M2.out _)) | (go_at_call 153; exact (H2.out _))); clear hK K))); (refine walkQ_step (fun K hK => ?_); go_simp; (try (go_ints; try go_simp)); first | (refine hK _ ?_; clear hK K) | (apply Exists.intro; refine ⟨fun _ => ?_, hK _ ?_⟩; (first | (go_at_call 138; exact calm_same (M1.out _)) | (go_at_call 138; exact calm_same (M2.out _)) | (go_at_call 153; exact (H2.out _))); clear hK K) | (simp only [↓IntWalk.iteOmega]; (try go_simp); (try (go_ints; try go_simp)); first | (refine hK _ ?_; clear hK K) | (apply Exists.intro; refine ⟨fun _ => ?_, hK _ ?_⟩; (first | (go_at_call 138; exact calm_same (M1.out _)) | (go_at_call 138; exact calm_same (M2.out _)) | (go_at_call 153; exact (H2.out _))); clear hK K))); (refine walkQ_step (fun K hK => ?_); go_simp; (try (go_ints; try go_simp)); first | (refine hK _ ?_; clear hK K) | (apply Exists.intro; refine ⟨fun _ => ?_, hK _ ?_⟩; (first | (go_at_call 138; exact calm_same (M1.out _)) | (go_at_call 138; exact calm_same (M2.out _)) | (go_at_call 153; exact (H2.out _))); clear hK K) | (simp only [↓IntWalk.iteOmega]; (try go_simp); (try (go_ints; try go_simp)); first | (refine hK _ ?_; clear hK K) | (apply Exists.intro; refine ⟨fun _ => ?_, hK _ ?_⟩; (first | (go_at_call 138; exact calm_same (M1.out _)) | (go_at_call 138; exact calm_same (M2.out _)) | (go_at_call 153; exact (H2.out _))); clear hK K))); (refine walkQ_step (fun K hK => ?_); go_simp; (try (go_ints; try go_simp)); first | (refine hK _ ?_; clear hK K) | (apply Exists.intro; refine ⟨fun _ => ?_, hK _ ?_⟩; (first | (go_at_call 138; exact calm_same (M1.out _)) | (go_at_call 138; exact calm_same (M2.out _)) | (go_at_call 153; exact (H2.out _))); clear hK K) | (simp only [↓IntWalk.iteOmega]; (try go_simp); (try (go_ints; try go_simp)); first | (refine hK _ ?_; clear hK K) | (apply Exists.intro; refine ⟨fun _ => ?_, hK _ ?_⟩; (first | (go_at_call 138; exact calm_same (M1.out _)) | (go_at_call 138; exact calm_same (M2.out _)) | (go_at_call 153; exact (H2.out _))); clear hK K))); (refine walkQ_step (fun K hK => ?_); go_simp; (try (go_ints; try go_simp)); first | (refine hK _ ?_; clear hK K) | (apply Exists.intro; refine ⟨fun _ => ?_, hK _ ?_⟩; (first | (go_at_call 138; exact calm_same (M1.out _)) | (go_at_call 138; exact calm_same (M2.out _)) | (go_at_call 153; exact (H2.out _))); clear hK K) | (simp only [↓IntWalk.iteOmega]; (try go_simp); (try (go_ints; try go_simp)); first | (refine hK _ ?_; clear hK K) | (apply Exists.intro; refine ⟨fun _ => ?_, hK _ ?_⟩; (first | (go_at_call 138; exact calm_same (M1.out _)) | (go_at_call 138; exact calm_same (M2.out _)) | (go_at_call 153; exact (H2.out _))); clear hK K))); (refine walkQ_step (fun K hK => ?_); go_simp; (try (go_ints; try go_simp)); first | (refine hK _ ?_; clear hK K) | (apply Exists.intro; refine ⟨fun _ => ?_, hK _ ?_⟩; (first | (go_at_call 138; exact calm_same (M1.out _)) | (go_at_call 138; exact calm_same (M2.out _)) | (go_at_call 153; exact (H2.out _))); clear hK K) | (simp only [↓IntWalk.iteOmega]; (try go_simp); (try (go_ints; try go_simp)); first | (refine hK _ ?_; clear hK K) | (apply Exists.intro; refine ⟨fun _ => ?_, hK _ ?_⟩; (first | (go_at_call 138; exact calm_same (M1.out _)) | (go_at_call 138; exact calm_same (M2.out _)) | (go_at_call 153; exact (H2.out _))); clear hK K))); (refine walkQ_step (fun K hK => ?_); go_simp; (try (go_ints; try go_simp)); first | (refine hK _ ?_; clear hK K) | (apply Exists.intro; refine ⟨fun _ => ?_, hK _ ?_⟩; (first | (go_at_call 138; exact calm_same (M1.out _)) | (go_at_call 138; exact calm_same (M2.out _)) | (go_at_call 153; exact (H2.out _))); clear hK K) | (simp only [↓IntWalk.iteOmega]; (try go_simp); (try (go_ints; try go_simp)); first | (refine hK _ ?_; clear hK K) | (apply Exists.intro; refine ⟨fun _ => ?_, hK _ ?_⟩; (first | (go_at_call 138; exact calm_same (M1.out _)) | (go_at_call 138; exact calm_same (M2.out _)) | (go_at_call 153; exact (H2.out _))); clear hK K))); (refine walkQ_step (fun K hK => ?_); go_simp; (try (go_ints; try go_simp)); first | (refine hK _ ?_; clear hK K) | (apply Exists.intro; refine ⟨fun _ => ?_, hK _ ?_⟩; (first | (go_at_call 138; exact calm_same (M1.out _)) | (go_at_call 138; exact calm_same (M2.out _)) | (go_at_call 153; exact (H2.out _))); clear hK K) | (simp only [↓IntWalk.iteOmega]; (try go_simp); (try (go_ints; try go_simp)); first | (refine hK _ ?_; clear hK K) | (apply Exists.intro; refine ⟨fun _ => ?_, hK _ ?_⟩; (first | (go_at_call 138; exact calm_same (M1.out _)) | (go_at_call 138; exact calm_same (M2.out _)) | (go_at_call 153; exact (H2.out _))); clear hK K))); (refine walkQ_step (fun K hK => ?_); go_simp; (try (go_ints; try go_simp)); first | (refine hK _ ?_; clear hK K) | (apply Exists.intro; refine ⟨fun _ => ?_, hK _ ?_⟩; (first | (go_at_call 138; exact calm_same (M1.out _)) | (go_at_call 138; exact calm_same (M2.out _)) | (go_at_call 153; exact (H2.out _))); clear hK K) | (simp only [↓IntWalk.iteOmega]; (try go_simp); (try (go_ints; try go_simp)); first | (refine hK _ ?_; clear hK K) | (apply Exists.intro; refine ⟨fun _ => ?_, hK _ ?_⟩; (first | (go_at_call 138; exact calm_same (M1.out _)) | (go_at_call 138; exact calm_same (M2.out _)) | (go_at_call 153; exact (H2.out _))); clear hK K))); (refine walkQ_step (fun K hK => ?_); go_simp; (try (go_ints; try go_simp)); first | (refine hK _ ?_; clear hK K) | (apply Exists.intro; refine ⟨fun _ => ?_, hK _ ?_⟩; (first | (go_at_call 138; exact calm_same (M1.out _)) | (go_at_call 138; exact calm_same (M2.out _)) | (go_at_call 153; exact (H2.out _))); clear hK K) | (simp only [↓IntWalk.iteOmega]; (try go_simp); (try (go_ints; try go_simp)); first | (refine hK _ ?_; clear hK K) | (apply Exists.intro; refine ⟨fun _ => ?_, hK _ ?_⟩; (first | (go_at_call 138; exact calm_same (M1.out _)) | (go_at_call 138; exact calm_same (M2.out _)) | (go_at_call 153; exact (H2.out _))); clear hK K))); (refine walkQ_step (fun K hK => ?_); go_simp; (try (go_ints; try go_simp)); first | (refine hK _ ?_; clear hK K) | (apply Exists.intro; refine ⟨fun _ => ?_, hK _ ?_⟩; (first | (go_at_call 138; exact calm_same (M1.out _)) | (go_at_call 138; exact calm_same (M2.out _)) | (go_at_call 153; exact (H2.out _))); clear hK K) | (simp only [↓IntWalk.iteOmega]; (try go_simp); (try (go_ints; try go_simp)); first | (refine hK _ ?_; clear hK K) | (apply Exists.intro; refine ⟨fun _ => ?_, hK _ ?_⟩; (first | (go_at_call 138; exact calm_same (M1.out _)) | (go_at_call 138; exact calm_same (M2.out _)) | (go_at_call 153; exact (H2.out _))); clear hK K))); (refine walkQ_step (fun K hK => ?_); go_simp; (try (go_ints; try go_simp)); first | (refine hK _ ?_; clear hK K) | (apply Exists.intro; refine ⟨fun _ => ?_, hK _ ?_⟩; (first | (go_at_call 138; exact calm_same (M1.out _)) | (go_at_call 138; exact calm_same (M2.out _)) | (go_at_call 153; exact (H2.out _))); clear hK K) | (simp only [↓IntWalk.iteOmega]; (try go_simp); (try (go_ints; try go_simp)); first | (refine hK _ ?_; clear hK K) | (apply Exists.intro; refine ⟨fun _ => ?_, hK _ ?_⟩; (first | (go_at_call 138; exact calm_same (M1.out _)) | (go_at_call 138; exact calm_same (M2.out _)) | (go_at_call 153; exact (H2.out _))); clear hK K))); (refine walkQ_step (fun K hK => ?_); go_simp; (try (go_ints; try go_simp)); first | (refine hK _ ?_; clear hK K) | (apply Exists.intro; refine ⟨fun _ => ?_, hK _ ?_⟩; (first | (go_at_call 138; exact calm_same (M1.out _)) | (go_at_call 138; exact calm_same (M2.out _)) | (go_at_call 153; exact (H2.out _))); clear hK K) | (simp only [↓IntWalk.iteOmega]; (try go_simp); (try (go_ints; try go_simp)); first | (refine hK _ ?_; clear hK K) | (apply Exists.intro; refine ⟨fun _ => ?_, hK _ ?_⟩; (first | (go_at_call 138; exact calm_same (M1.out _)) | (go_at_call 138; exact calm_same (M2.out _)) | (go_at_call 153; exact (H2.out _))); clear hK K))); (refine walkQ_step (fun K hK => ?_); go_simp; (try (go_ints; try go_simp)); first | (refine hK _ ?_; clear hK K) | (apply Exists.intro; refine ⟨fun _ => ?_, hK _ ?_⟩; (first | (go_at_call 138; exact calm_same (M1.out _)) | (go_at_call 138; exact calm_same (M2.out _)) | (go_at_call 153; exact (H2.out _))); clear hK K) | (simp only [↓IntWalk.iteOmega]; (try go_simp); (try (go_ints; try go_simp)); first | (refine hK _ ?_; clear hK K) | (apply Exists.intro; refine ⟨fun _ => ?_, hK _ ?_⟩; (first | (go_at_call 138; exact calm_same (M1.out _)) | (go_at_call 138; exact calm_same (M2.out _)) | (go_at_call 153; exact (H2.out _))); clear hK K))); refine walkQ_nil ?_; clear hgr; refine walkF_nil ?_; intro w1 hE _; have hc2 := hE.cells; have hf2 := hE.frees; have hz2 := hE.size
      replace hE : Ext wo w1 := ((Ext.refl wo).drew).trans hE
      have hs := hE.size
      have HT1 := Lib.hid (HT.out.ext hE hz)
      obtain ⟨⟨u0, u1, u2, u3, u4, u5⟩, g0, g1, g2, g3, g4, g5⟩ := HT1.out.all
      go_wp2
      refine ⟨⟨j + 1, by omega, by go_num, (by (repeat' (first | (with_reducible exact Ext.refl _) | (with_reducible assumption) | (with_reducible refine Ext.alloc ?_ _) | (with_reducible refine Ext.drew ?_) | (with_reducible refine Ext.drewN ?_ _) | (with_reducible refine Ext.setCell ?_ ?_ _) | (with_reducible refine Ext.trans ?_ (by assumption)))) <;> (first | (with_reducible assumption) | omega | (simp; done) | (simp; omega))), ?_, HT1.out.six _, by simp; omega⟩, by simp [intOf]; omega⟩
      exact ((((((HR.out.ext hE zr).far (by dsimp only; omega) _).far (by dsimp only; omega) _).far (by dsimp only; omega) _).far (by dsimp only; omega) _).far (by dsimp only; omega) _).far (by dsimp only; omega) _
    · obtain rfl : j = L.length := by omega
      rw [List.take_of_length_le (Nat.le_refl _)] at HT
      obtain ⟨⟨c0, c1, c2, c3, c4, c5⟩, _⟩ := HT.out.all
      obtain ⟨⟨d0, d1, d2, d3, d4, d5⟩, f0, f1, f2, f3, f4, f5⟩ := HR.out.all
      go_wp2
      exact bodyPost_ret (ret_cell_tmp rfl rfl rfl (load_sheet (HR.out.six (rw (rfI L))))) rfl ⟨rfl, (by (repeat' (first | (with_reducible exact Ext.refl _) | (with_reducible assumption) | (with_reducible refine Ext.alloc ?_ _) | (with_reducible refine Ext.drew ?_) | (with_reducible refine Ext.drewN ?_ _) | (with_reducible refine Ext.setCell ?_ ?_ _) | (with_reducible refine Ext.trans ?_ (by assumption)))) <;> (first | (with_reducible assumption) | omega | (simp; done) | (simp; omega)))⟩
end Go.Proofs.Ytlifhoajamnehaa
