/- Sets2: contracts of functions, and lemmas, for this seat. Conditions: as each states. -/
import Derived.Test.YtlifhoajamnehaaSets
set_option linter.unusedVariables false
set_option maxRecDepth 100000
set_option maxHeartbeats 1000000
namespace Go.Proofs.Ytlifhoajamnehaa
open Go Go.RowKit
theorem row_get (n y : Nat) (c : Int) (hn : n < 68719476736) (hc : c = ((2 ^ (6 * y) : Nat) : Int)) : wrap64 (bits .and .u64 ((n : Int) / c) 63) = rw n y := by
  subst hc
  have hle : n / 2 ^ (6 * y) ≤ n := Nat.div_le_self _ _
  have hr := rowN_lt n y
  rw [show ((n : Int) / ((2 ^ (6 * y) : Nat) : Int)) = ((n / 2 ^ (6 * y) : Nat) : Int) from rfl, show (63 : Int) = ((63 : Nat) : Int) from rfl, u64_and_nat _ _ (by omega) (by omega), nat_mask6]
  unfold rw rowN at *
  rw [IntWalk.wrap64_in _ (by omega)]
theorem row_get0 (n : Nat) (hn : n < 68719476736) : wrap64 (bits .and .u64 (n : Int) 63) = rw n 0 := by
  have := row_get n 0 1 hn rfl
  simpa using this
theorem sheet_n (n : Nat) (hn : n < 68719476736) (w : World) : Calls Try.prog 94 #[.int .u64 (n : Int)] w fun e w' => e = .returned (.agg #[.int .i64 (rw n 0), .int .i64 (rw n 1), .int .i64 (rw n 2), .int .i64 (rw n 3), .int .i64 (rw n 4), .int .i64 (rw n 5)]) ∧ Ext w w' := by
  go_enter Try.func94, Try.ntmps94
  go_wp2
  go_rounds 7
  go_returns
  exact ⟨sheet_eq (row_get0 n hn) (row_get n 1 _ hn rfl) (row_get n 2 _ hn rfl) (row_get n 3 _ hn rfl) (row_get n 4 _ hn rfl) (row_get n 5 _ hn rfl), (by (repeat' (first | (with_reducible exact Ext.refl _) | (with_reducible assumption) | (with_reducible refine Ext.alloc ?_ _) | (with_reducible refine Ext.drew ?_) | (with_reducible refine Ext.drewN ?_ _) | (with_reducible refine Ext.setCell ?_ ?_ _) | (with_reducible refine Ext.trans ?_ (by assumption)))) <;> (first | (with_reducible assumption) | omega | (simp; done) | (simp; omega)))⟩
theorem shifted1_any (x y dx dy : Nat) (hx : x < 36) (hy : y < 36) (hdx : dx < 36) (hdy : dy < 36) (a b : Addr) (w : World) (ha : w.cell? a = some (.int .i64 (dx : Int))) (hb : w.cell? b = some (.int .i64 (dy : Int))) :
    Calls Try.prog 142 #[.int .i64 (x : Int), .int .i64 (y : Int), .pointer (some a), .pointer (some b)] w fun e w' => e = .returned (.tuple #[.int .i64 (((x + dx) % 6 : Nat) : Int), .int .i64 (((y + dy) % 6 : Nat) : Int)]) ∧ Ext w w' := by
  go_enter Try.func142, Try.ntmps142
  go_wp2
  go_quiet (fail)
  go_wp2
  go_ret2
  exact ⟨ret2_ints (by omega) (by omega), (by (repeat' (first | (with_reducible exact Ext.refl _) | (with_reducible assumption) | (with_reducible refine Ext.alloc ?_ _) | (with_reducible refine Ext.drew ?_) | (with_reducible refine Ext.drewN ?_ _) | (with_reducible refine Ext.setCell ?_ ?_ _) | (with_reducible refine Ext.trans ?_ (by assumption)))) <;> (first | (with_reducible assumption) | omega | (simp; done) | (simp; omega)))⟩
theorem moved_shift (n : Nat) (hn : n < 68719476736) (dx dy : Nat) (hdx : dx < 6) (hdy : dy < 6) (b c : Nat) (w : World) (hb : w.cell? ⟨b, 0, none⟩ = some (.int .i64 (dx : Int))) (hc : w.cell? ⟨c, 0, none⟩ = some (.int .i64 (dy : Int))) (hbs : b < w.heap.size) (hcs : c < w.heap.size) :
    Calls Try.prog 141 #[.int .u64 (n : Int), .func (.func 142) #[] #[.pointer (some ⟨b, 0, none⟩), .pointer (some ⟨c, 0, none⟩)]] w fun e w' => e = .returned (.int .u64 ((sh n dx dy : Nat) : Int)) ∧ Ext w w' := by
  refine (moved_any n hn _ _ (fun k => (k % 6 + dx) % 6) (fun k => (k / 6 + dy) % 6) w Try.call142 fun k hk => ⟨Nat.mod_lt _ (by omega), Nat.mod_lt _ (by omega), fun w' hx => ?_⟩).mono ?_
  · exact shifted1_any (k % 6) (k / 6) dx dy (by omega) (by omega) (by omega) (by omega) _ _ w' ((hx.cells _ _ hbs).trans hb) ((hx.cells _ _ hcs).trans hc)
  · rintro e w' ⟨rfl, hx⟩
    refine ⟨ret_int (nat_int ?_), hx⟩
    rw [← mvN_sh n dx dy hdx hdy]
    refine congrArg (fun t => mvN n t 36) (funext fun k => ?_)
    unfold tgt
    omega
theorem shifted_any (n : Nat) (hn : n < 68719476736) (dx dy : Int) (w : World) :
    Calls Try.prog 87 #[.int .u64 (n : Int), .int .i64 dx, .int .i64 dy] w fun e w' => e = .returned (.int .u64 ((sh n (m6 dx) (m6 dy) : Nat) : Int)) ∧ Ext w w' := by
  go_enter Try.func87, Try.ntmps87
  go_wp2
  refine wp_calm 4 0 (fun _ => (#[], 0)) (by kernel_rfl) (by kernel_rfl) ?_; simp only [List.take_succ_cons, List.take_zero, List.drop_succ_cons, List.drop_zero]; intro hgr; (refine walkQ_step (fun K hK => ?_); go_simp; (try (go_ints; try go_simp)); first | (refine hK _ ?_; clear hK K) | (apply Exists.intro; refine ⟨fun _ => ?_, hK _ ?_⟩; ((go_at_call 140; exact calm_same (rest_any _ _))); clear hK K) | (simp only [↓IntWalk.iteOmega]; (try go_simp); (try (go_ints; try go_simp)); first | (refine hK _ ?_; clear hK K) | (apply Exists.intro; refine ⟨fun _ => ?_, hK _ ?_⟩; ((go_at_call 140; exact calm_same (rest_any _ _))); clear hK K))); (refine walkQ_step (fun K hK => ?_); go_simp; (try (go_ints; try go_simp)); first | (refine hK _ ?_; clear hK K) | (apply Exists.intro; refine ⟨fun _ => ?_, hK _ ?_⟩; ((go_at_call 140; exact calm_same (rest_any _ _))); clear hK K) | (simp only [↓IntWalk.iteOmega]; (try go_simp); (try (go_ints; try go_simp)); first | (refine hK _ ?_; clear hK K) | (apply Exists.intro; refine ⟨fun _ => ?_, hK _ ?_⟩; ((go_at_call 140; exact calm_same (rest_any _ _))); clear hK K))); (refine walkQ_step (fun K hK => ?_); go_simp; (try (go_ints; try go_simp)); first | (refine hK _ ?_; clear hK K) | (apply Exists.intro; refine ⟨fun _ => ?_, hK _ ?_⟩; ((go_at_call 140; exact calm_same (rest_any _ _))); clear hK K) | (simp only [↓IntWalk.iteOmega]; (try go_simp); (try (go_ints; try go_simp)); first | (refine hK _ ?_; clear hK K) | (apply Exists.intro; refine ⟨fun _ => ?_, hK _ ?_⟩; ((go_at_call 140; exact calm_same (rest_any _ _))); clear hK K))); (refine walkQ_step (fun K hK => ?_); go_simp; (try (go_ints; try go_simp)); first | (refine hK _ ?_; clear hK K) | (apply Exists.intro; refine ⟨fun _ => ?_, hK _ ?_⟩; ((go_at_call 140; exact calm_same (rest_any _ _))); clear hK K) | (simp only [↓IntWalk.iteOmega]; (try go_simp); (try (go_ints; try go_simp)); first | (refine hK _ ?_; clear hK K) | (apply Exists.intro; refine ⟨fun _ => ?_, hK _ ?_⟩; ((go_at_call 140; exact calm_same (rest_any _ _))); clear hK K))); refine walkQ_nil ?_; clear hgr; refine walkF_nil ?_; intro w1 hE _; have hc2 := hE.cells; have hf2 := hE.frees; have hz2 := hE.size
  go_wp2_with (go_at_call 141; refine (moved_shift n hn _ _ (m6_lt dx) (m6_lt dy) _ _ _ ?c1 ?c2 ?c3 ?c4).mono ?_; rotate_right; rintro e w1 ⟨rfl, hx⟩)
  case c1 => exact (World.cell?_setCell_other _ _ _ _ (by simp)).trans (World.cell?_setCell_same _ _ _ (u := .int .i64 dx) (by go_simp))
  case c2 => go_simp
  case c3 => simp at hz2 ⊢; omega
  case c4 => simp at hz2 ⊢; omega
  go_ret
  exact ⟨rfl, (by (repeat' (first | (with_reducible exact Ext.refl _) | (with_reducible assumption) | (with_reducible refine Ext.alloc ?_ _) | (with_reducible refine Ext.drew ?_) | (with_reducible refine Ext.drewN ?_ _) | (with_reducible refine Ext.setCell ?_ ?_ _) | (with_reducible refine Ext.trans ?_ (by assumption)))) <;> (first | (with_reducible assumption) | omega | (simp; done) | (simp; omega)))⟩
theorem where_any (f : FuncId) (caps : Array Value) (p : Nat → Bool) (w : World) (hcf : ∀ args w, (callFunc f args).run Try.prog w = .ok (.enter f args) w)
    (hg : ∀ k, k < 36 → ∀ w', Ext w w' → Calls Try.prog f (#[.int .i64 (k : Int)] ++ caps) w' fun e w'' => e = .returned (.bool (p k)) ∧ Ext w' w'') :
    Calls Try.prog 92 #[.func (.func f) #[] caps] w fun e w' => e = .returned (.int .u64 ((mkN p 36 : Nat) : Int)) ∧ Ext w w' := by
  have HG := Lib.hid hg
  clear hg
  go_enter Try.func92, Try.ntmps92
  go_wp2
  go_loopw [3, 5] (fun o i wr => ∃ k : Nat, k ≤ 36 ∧ i = .int .i64 k ∧ o = .int .u64 ((mkN p k : Nat) : Int) ∧ Ext w wr) (fun _ i _ => 36 - (intOf i).toNat)
  case atStart => exact ⟨0, Nat.zero_le _, rfl, rfl, Ext.refl _⟩
  case round =>
    obtain ⟨k, hk, rfl, rfl, hx⟩ := hrel
    by_cases hlt : k < 36
    · have hc' := Lib.hid (HG.out k hlt wr hx)
      have hS := Lib.hid (mkN_step p k hlt)
      by_cases hb : p k = true
      · go_wp2_with (refine (Hid.out hc').mono ?_; rintro e w1 ⟨rfl, hx1⟩)
        exact ⟨⟨k + 1, by omega, by go_num, val_int (hS.out.1 hb), hx.trans hx1⟩, by simp [intOf]; omega⟩
      · go_wp2_with (refine (Hid.out hc').mono ?_; rintro e w1 ⟨rfl, hx1⟩)
        exact ⟨⟨k + 1, by omega, by go_num, val_int (nat_int (hS.out.2 hb)), hx.trans hx1⟩, by simp [intOf]; omega⟩
    · obtain rfl : k = 36 := by omega
      go_wp2
      go_ret
      exact ⟨rfl, hx⟩
end Go.Proofs.Ytlifhoajamnehaa
