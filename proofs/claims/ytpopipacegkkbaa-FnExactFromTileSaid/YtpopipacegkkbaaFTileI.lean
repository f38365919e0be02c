/- FTileI: contracts of functions, and lemmas, for this seat. Conditions: as each states. -/
import Derived.Test.YtpopipacegkkbaaFTile
set_option linter.unusedVariables false
set_option maxRecDepth 100000
set_option maxHeartbeats 2000000
namespace Go.Proofs.Ytpopipacegkkbaa
open Go Go.RowKit Instr
theorem indexF_none (f : FuncId) (caps : Array Value) (n : Nat) (g : Nat → Int) (hn : n ≤ 1048576) (hcf : ∀ args w, (callFunc f args).run Try.prog w = .ok (.enter f args) w) (B : Nat) (u : Value) (w : World) (ho : w.ownsRow B 3 1 u n (Gl n g))
    (hg : ∀ k, k < n → ∀ w', Ext w w' → Calls Try.prog f (#[.int .i64 (g k)] ++ caps) w' fun e w'' => e = .returned (.bool false) ∧ Ext w' w'') :
    Calls Try.prog 80 #[u, .func (.func f) #[] caps] w fun e w' => e = .returned (.int .i64 (-1)) ∧ Ext w w' := by
  obtain ⟨ao, cap, rfl, hsh⟩ := own_shape ho
  have HO := Lib.hid ho
  have HG := Lib.hid hg
  clear ho hg
  go_enter Try.func80, Try.ntmps80
  go_wp2
  go_loopw [8] (fun i wr => ∃ k : Nat, k ≤ n ∧ i = .int .i64 k ∧ Ext w wr) (fun i _ => n - (intOf i).toNat)
  case atStart => exact ⟨0, Nat.zero_le _, rfl, Ext.refl _⟩
  case round =>
    obtain ⟨k, hk, rfl, hx⟩ := hrel
    by_cases hlt : k < n
    · obtain ⟨b, rfl, _, hb⟩ := hsh (by omega)
      have c1 := ((own_ext HO.out hx).cellAt k (by omega)).trans (Gl_get (by omega))
      have hc' := Lib.hid (HG.out k hlt wr hx)
      go_wp2_with (refine (Hid.out hc').mono ?_; rintro e w1 ⟨rfl, hx1⟩)
      (refine ⟨?_, by simp [intOf]; omega⟩; repeat (first | exact ⟨k + 1, by omega, by go_num, hx.trans hx1⟩ | exact ⟨⟨k + 1, by omega, by go_num, hx.trans hx1⟩, rfl⟩ | apply Exists.intro))
    · obtain rfl : k = n := by omega
      go_wp2
      go_ret
      exact ⟨rfl, hx⟩
theorem indexF_some (f : FuncId) (caps : Array Value) (n j0 : Nat) (g : Nat → Int) (hj0 : j0 < n) (hn : n ≤ 1048576) (hcf : ∀ args w, (callFunc f args).run Try.prog w = .ok (.enter f args) w) (B : Nat) (u : Value) (w : World) (ho : w.ownsRow B 3 1 u n (Gl n g))
    (hg : ∀ k, k ≤ j0 → ∀ w', Ext w w' → Calls Try.prog f (#[.int .i64 (g k)] ++ caps) w' fun e w'' => e = .returned (.bool (decide (k = j0))) ∧ Ext w' w'') :
    Calls Try.prog 80 #[u, .func (.func f) #[] caps] w fun e w' => e = .returned (.int .i64 (j0 : Int)) ∧ Ext w w' := by
  obtain ⟨ao, cap, rfl, hsh⟩ := own_shape ho
  have HO := Lib.hid ho
  have HG := Lib.hid hg
  clear ho hg
  go_enter Try.func80, Try.ntmps80
  go_wp2
  go_loopw [8] (fun i wr => ∃ k : Nat, k ≤ j0 ∧ i = .int .i64 k ∧ Ext w wr) (fun i _ => n - (intOf i).toNat)
  case atStart => exact ⟨0, Nat.zero_le _, rfl, Ext.refl _⟩
  case round =>
    obtain ⟨k, hk, rfl, hx⟩ := hrel
    have hlt : k < n := by omega
    obtain ⟨b, rfl, _, hb⟩ := hsh (by omega)
    have c1 := ((own_ext HO.out hx).cellAt k (by omega)).trans (Gl_get (by omega))
    have hc' := Lib.hid (HG.out k hk wr hx)
    by_cases hkj : k = j0
    · rw [decide_eq_true hkj] at hc'
      subst hkj
      go_wp2_with (refine (Hid.out hc').mono ?_; rintro e w1 ⟨rfl, hx1⟩)
      go_ret
      exact ⟨rfl, hx.trans hx1⟩
    · rw [decide_eq_false hkj] at hc'
      have hkj2 : k + 1 ≤ j0 := by omega
      clear hkj
      go_wp2_with (refine (Hid.out hc').mono ?_; rintro e w1 ⟨rfl, hx1⟩)
      (refine ⟨?_, by simp [intOf]; omega⟩; repeat (first | exact ⟨k + 1, hkj2, by go_num, hx.trans hx1⟩ | exact ⟨⟨k + 1, hkj2, by go_num, hx.trans hx1⟩, rfl⟩ | apply Exists.intro))
theorem containsF_is (f : FuncId) (caps : Array Value) (u : Value) (r : Int) (b : Bool) (hb : decide (0 ≤ r) = b) (w : World) (h : Calls Try.prog 80 #[u, .func (.func f) #[] caps] w fun e w' => e = .returned (.int .i64 r) ∧ Ext w w') :
    Calls Try.prog 49 #[u, .func (.func f) #[] caps] w fun e w' => e = .returned (.bool b) ∧ Ext w w' := by
  have H := Lib.hid h
  clear h
  go_enter Try.func49, Try.ntmps49
  go_wp2_with (go_at_call 80; refine H.out.mono ?_; rintro e w1 ⟨rfl, hE⟩)
  go_returns
  exact ⟨ret_bool (by rw [← hb]), (by (repeat' (first | (with_reducible exact Ext.refl _) | (with_reducible assumption) | (with_reducible refine Ext.alloc ?_ _) | (with_reducible refine Ext.drew ?_) | (with_reducible refine Ext.drewN ?_ _) | (with_reducible refine Ext.setCell ?_ ?_ _) | (with_reducible refine Ext.trans ?_ (by assumption)))) <;> (first | (with_reducible assumption) | omega | (simp; done) | (simp; omega)))⟩
theorem FromTile1_n (r : Int) (v : Nat) (hv : v = 1 ∨ v = 2 ∨ v = 3 ∨ v = 6) (b : Nat) (w : World) (hb : w.cell? ⟨b, 0, none⟩ = some (.int .i64 (v : Int))) (c : Bool) (hc : (!inR r 0 (2 ^ v - 1)) = c) :
    Calls Try.prog 50 (#[.int .i64 r] ++ #[.pointer (some ⟨b, 0, none⟩)]) w fun e w' => e = .returned (.bool c) ∧ Ext w w' := by
  unfold inR at hc
  rcases hv with rfl | rfl | rfl | rfl
  all_goals
    by_cases h : r < 0
    · go_enter Try.func50, Try.ntmps50
      go_wp2
      go_returns
      exact ⟨ret_bool (by rw [← hc, Bool.eq_iff_iff]; simp; omega), (by (repeat' (first | (with_reducible exact Ext.refl _) | (with_reducible assumption) | (with_reducible refine Ext.alloc ?_ _) | (with_reducible refine Ext.drew ?_) | (with_reducible refine Ext.drewN ?_ _) | (with_reducible refine Ext.setCell ?_ ?_ _) | (with_reducible refine Ext.trans ?_ (by assumption)))) <;> (first | (with_reducible assumption) | omega | (simp; done) | (simp; omega)))⟩
    · go_enter Try.func50, Try.ntmps50
      go_wp2
      go_returns
      exact ⟨ret_bool (by rw [← hc, Bool.eq_iff_iff]; simp; omega), (by (repeat' (first | (with_reducible exact Ext.refl _) | (with_reducible assumption) | (with_reducible refine Ext.alloc ?_ _) | (with_reducible refine Ext.drew ?_) | (with_reducible refine Ext.drewN ?_ _) | (with_reducible refine Ext.setCell ?_ ?_ _) | (with_reducible refine Ext.trans ?_ (by assumption)))) <;> (first | (with_reducible assumption) | omega | (simp; done) | (simp; omega)))⟩
theorem FromTile2_n (n v k : Nat) (g : Nat → Int) (hn : n = 1 ∨ n = 2 ∨ n = 3 ∨ n = 6) (hv : v = 1 ∨ v = 2 ∨ v = 3 ∨ v = 6) (hk : k < 36) (h63 : ∀ j, j < n → 0 ≤ g j ∧ g j ≤ 63) (b c d : Nat) (B : Nat) (u : Value) (w : World) (hb : w.cell? ⟨b, 0, none⟩ = some u) (hc : w.cell? ⟨c, 0, none⟩ = some (.int .i64 (n : Int))) (hd : w.cell? ⟨d, 0, none⟩ = some (.int .i64 (v : Int)))
    (hbs : b < w.heap.size) (hcs : c < w.heap.size) (hds : d < w.heap.size) (ho : w.ownsRow B 3 1 u n (Gl n g)) :
    Calls Try.prog 52 (#[.int .i64 (k : Int)] ++ #[.pointer (some ⟨b, 0, none⟩), .pointer (some ⟨c, 0, none⟩), .pointer (some ⟨d, 0, none⟩)]) w fun e w' => e = .returned (.bool (ftB g n v k)) ∧ Ext w w' := by
  obtain ⟨ao, cap, rfl, hsh⟩ := own_shape ho
  have HO := Lib.hid ho
  clear ho
  have hn0 : 0 < n := by omega
  obtain ⟨vb, rfl, _, hvb⟩ := hsh hn0
  have hmod := Nat.mod_lt (k / 6) hn0
  have c1 := (HO.out.cellAt (k / 6 % n) (by omega)).trans (Gl_get (by omega))
  obtain ⟨r, hr⟩ : ∃ r : Nat, g (k / 6 % n) = r := ⟨(g (k / 6 % n)).toNat, by have := h63 _ hmod; omega⟩
  have hrl : r < 64 := by have := h63 _ hmod; omega
  have hbb : ftB g n v k = r.testBit (k % 6 % v) := by unfold ftB; rw [hr]; rfl
  have HA := Lib.hid (ft_and r (k % 6 % v) hrl)
  rw [hbb]
  rw [hr] at c1
  have hnz : ((n : Int) = 0) ↔ False := iff_of_false (by omega) id
  have hm0 : ((k : Int) / 6 % (n : Int)) = ((k / 6 % n : Nat) : Int) := by simp
  have hm1 : 0 ≤ (k : Int) / 6 % (n : Int) := by rw [hm0]; omega
  have hm2 : (k : Int) / 6 % (n : Int) < (n : Int) := by rw [hm0]; omega
  have hm3 : ((k : Int) / 6 % (n : Int)).toNat = k / 6 % n := by rw [hm0]; rfl
  clear h63 hr hbb hm0
  cases hbit : r.testBit (k % 6 % v)
  all_goals
    rw [hbit] at HA
    clear hbit
    have ha := HA.out
    simp only [if_true, if_false, Bool.false_eq_true] at ha
    rcases hv with rfl | rfl | rfl | rfl
    all_goals
      (try rw [Nat.mod_one, Int.pow_zero, Int.ediv_one] at ha)
      skip
      go_enter Try.func52, Try.ntmps52
      go_wp2
      refine wp_calm0 (by kernel_rfl) (by kernel_rfl) ?_; intro hgr; (refine walkQ_step (fun K hK => ?_); go_simp; (try (go_ints; try go_simp)); first | (refine hK _ ?_; clear hK K) | (apply Exists.intro; refine ⟨fun _ => ?_, hK _ ?_⟩; (fail); clear hK K) | (simp only [↓IntWalk.iteOmega]; (try go_simp); (try (go_ints; try go_simp)); first | (refine hK _ ?_; clear hK K) | (apply Exists.intro; refine ⟨fun _ => ?_, hK _ ?_⟩; (fail); clear hK K))); (refine walkQ_step (fun K hK => ?_); go_simp; (try (go_ints; try go_simp)); first | (refine hK _ ?_; clear hK K) | (apply Exists.intro; refine ⟨fun _ => ?_, hK _ ?_⟩; (fail); clear hK K) | (simp only [↓IntWalk.iteOmega]; (try go_simp); (try (go_ints; try go_simp)); first | (refine hK _ ?_; clear hK K) | (apply Exists.intro; refine ⟨fun _ => ?_, hK _ ?_⟩; (fail); clear hK K))); (refine walkQ_step (fun K hK => ?_); go_simp; (try (go_ints; try go_simp)); first | (refine hK _ ?_; clear hK K) | (apply Exists.intro; refine ⟨fun _ => ?_, hK _ ?_⟩; (fail); clear hK K) | (simp only [↓IntWalk.iteOmega]; (try go_simp); (try (go_ints; try go_simp)); first | (refine hK _ ?_; clear hK K) | (apply Exists.intro; refine ⟨fun _ => ?_, hK _ ?_⟩; (fail); clear hK K))); (refine walkQ_step (fun K hK => ?_); go_simp; (try (go_ints; try go_simp)); first | (refine hK _ ?_; clear hK K) | (apply Exists.intro; refine ⟨fun _ => ?_, hK _ ?_⟩; (fail); clear hK K) | (simp only [↓IntWalk.iteOmega]; (try go_simp); (try (go_ints; try go_simp)); first | (refine hK _ ?_; clear hK K) | (apply Exists.intro; refine ⟨fun _ => ?_, hK _ ?_⟩; (fail); clear hK K))); (refine walkQ_step (fun K hK => ?_); go_simp; (try (go_ints; try go_simp)); first | (refine hK _ ?_; clear hK K) | (apply Exists.intro; refine ⟨fun _ => ?_, hK _ ?_⟩; (fail); clear hK K) | (simp only [↓IntWalk.iteOmega]; (try go_simp); (try (go_ints; try go_simp)); first | (refine hK _ ?_; clear hK K) | (apply Exists.intro; refine ⟨fun _ => ?_, hK _ ?_⟩; (fail); clear hK K))); (refine walkQ_step (fun K hK => ?_); go_simp; (try (go_ints; try go_simp)); first | (refine hK _ ?_; clear hK K) | (apply Exists.intro; refine ⟨fun _ => ?_, hK _ ?_⟩; (fail); clear hK K) | (simp only [↓IntWalk.iteOmega]; (try go_simp); (try (go_ints; try go_simp)); first | (refine hK _ ?_; clear hK K) | (apply Exists.intro; refine ⟨fun _ => ?_, hK _ ?_⟩; (fail); clear hK K))); (refine walkQ_step (fun K hK => ?_); go_simp; (try (go_ints; try go_simp)); first | (refine hK _ ?_; clear hK K) | (apply Exists.intro; refine ⟨fun _ => ?_, hK _ ?_⟩; (fail); clear hK K) | (simp only [↓IntWalk.iteOmega]; (try go_simp); (try (go_ints; try go_simp)); first | (refine hK _ ?_; clear hK K) | (apply Exists.intro; refine ⟨fun _ => ?_, hK _ ?_⟩; (fail); clear hK K))); (refine walkQ_step (fun K hK => ?_); go_simp; (try (go_ints; try go_simp)); first | (refine hK _ ?_; clear hK K) | (apply Exists.intro; refine ⟨fun _ => ?_, hK _ ?_⟩; (fail); clear hK K) | (simp only [↓IntWalk.iteOmega]; (try go_simp); (try (go_ints; try go_simp)); first | (refine hK _ ?_; clear hK K) | (apply Exists.intro; refine ⟨fun _ => ?_, hK _ ?_⟩; (fail); clear hK K))); (refine walkQ_step (fun K hK => ?_); go_simp; (try (go_ints; try go_simp)); first | (refine hK _ ?_; clear hK K) | (apply Exists.intro; refine ⟨fun _ => ?_, hK _ ?_⟩; (fail); clear hK K) | (simp only [↓IntWalk.iteOmega]; (try go_simp); (try (go_ints; try go_simp)); first | (refine hK _ ?_; clear hK K) | (apply Exists.intro; refine ⟨fun _ => ?_, hK _ ?_⟩; (fail); clear hK K))); (refine walkQ_step (fun K hK => ?_); go_simp; (try (go_ints; try go_simp)); first | (refine hK _ ?_; clear hK K) | (apply Exists.intro; refine ⟨fun _ => ?_, hK _ ?_⟩; (fail); clear hK K) | (simp only [↓IntWalk.iteOmega]; (try go_simp); (try (go_ints; try go_simp)); first | (refine hK _ ?_; clear hK K) | (apply Exists.intro; refine ⟨fun _ => ?_, hK _ ?_⟩; (fail); clear hK K))); (refine walkQ_step (fun K hK => ?_); go_simp; (try (go_ints; try go_simp)); first | (refine hK _ ?_; clear hK K) | (apply Exists.intro; refine ⟨fun _ => ?_, hK _ ?_⟩; (fail); clear hK K) | (simp only [↓IntWalk.iteOmega]; (try go_simp); (try (go_ints; try go_simp)); first | (refine hK _ ?_; clear hK K) | (apply Exists.intro; refine ⟨fun _ => ?_, hK _ ?_⟩; (fail); clear hK K))); (refine walkQ_step (fun K hK => ?_); go_simp; (try (go_ints; try go_simp)); first | (refine hK _ ?_; clear hK K) | (apply Exists.intro; refine ⟨fun _ => ?_, hK _ ?_⟩; (fail); clear hK K) | (simp only [↓IntWalk.iteOmega]; (try go_simp); (try (go_ints; try go_simp)); first | (refine hK _ ?_; clear hK K) | (apply Exists.intro; refine ⟨fun _ => ?_, hK _ ?_⟩; (fail); clear hK K))); (refine walkQ_step (fun K hK => ?_); go_simp; (try (go_ints; try go_simp)); first | (refine hK _ ?_; clear hK K) | (apply Exists.intro; refine ⟨fun _ => ?_, hK _ ?_⟩; (fail); clear hK K) | (simp only [↓IntWalk.iteOmega]; (try go_simp); (try (go_ints; try go_simp)); first | (refine hK _ ?_; clear hK K) | (apply Exists.intro; refine ⟨fun _ => ?_, hK _ ?_⟩; (fail); clear hK K))); (refine walkQ_step (fun K hK => ?_); go_simp; (try (go_ints; try go_simp)); first | (refine hK _ ?_; clear hK K) | (apply Exists.intro; refine ⟨fun _ => ?_, hK _ ?_⟩; (fail); clear hK K) | (simp only [↓IntWalk.iteOmega]; (try go_simp); (try (go_ints; try go_simp)); first | (refine hK _ ?_; clear hK K) | (apply Exists.intro; refine ⟨fun _ => ?_, hK _ ?_⟩; (fail); clear hK K))); (refine walkQ_step (fun K hK => ?_); go_simp; (try (go_ints; try go_simp)); first | (refine hK _ ?_; clear hK K) | (apply Exists.intro; refine ⟨fun _ => ?_, hK _ ?_⟩; (fail); clear hK K) | (simp only [↓IntWalk.iteOmega]; (try go_simp); (try (go_ints; try go_simp)); first | (refine hK _ ?_; clear hK K) | (apply Exists.intro; refine ⟨fun _ => ?_, hK _ ?_⟩; (fail); clear hK K))); refine walkQ_nil ?_; clear hgr; intro w1 hE; have hc2 := hE.cells; have hf2 := hE.frees; have hz2 := hE.size
      replace hE : Ext w w1 := ((Ext.refl w).drew).trans hE
      go_wp2
      go_returns
      exact ⟨ret_bool (by first | rfl | (simp at ha; simp [ha])), (by (repeat' (first | (with_reducible exact Ext.refl _) | (with_reducible assumption) | (with_reducible refine Ext.alloc ?_ _) | (with_reducible refine Ext.drew ?_) | (with_reducible refine Ext.drewN ?_ _) | (with_reducible refine Ext.setCell ?_ ?_ _) | (with_reducible refine Ext.trans ?_ (by assumption)))) <;> (first | (with_reducible assumption) | omega | (simp; done) | (simp; omega)))⟩
theorem FromTile_div (n : Nat) (v : Int) (g : Nat → Int) (hn : n ≤ 1048576) (h : (dv (n : Int) && dv v) = false) (B : Nat) (u : Value) (w : World) (ho : w.ownsRow B 3 1 u n (Gl n g)) :
    Calls Try.prog 12 #[u, .int .i64 v] w fun e w' => e = .returned (.tuple #[(.agg #[.int .i64 0, .int .i64 0, .int .i64 0, .int .i64 0, .int .i64 0, .int .i64 0]), .bool false]) ∧ Ext w w' := by
  obtain ⟨ao, cap, rfl, _⟩ := own_shape ho
  clear ho
  have H1 := Lib.hid (fun w => isDivisor_any (n : Int) w)
  have H2 := Lib.hid (fun w => isDivisor_any v w)
  cases h1 : dv (n : Int) <;> cases h2 : dv v <;> rw [h1, h2] at h
  all_goals first
    | (exact absurd h (by decide))
    | skip
  all_goals
    rw [h1] at H1
    rw [h2] at H2
    clear h h1 h2
    skip
    go_enter Try.func12, Try.ntmps12
    have tk0 := Lib.hid True.intro
    go_wp2_with (first | (clear tk0; (go_at_call 48; refine (H1.out _).mono ?_; rintro e w' ⟨rfl, rfl⟩)) | (go_at_call 48; refine (H2.out _).mono ?_; rintro e w' ⟨rfl, rfl⟩))
    exact bodyPost_ret (ret_cell_tmp rfl rfl rfl (load_sheet ((Arr.new0 _ _ (by simp)).alloc _ (by simp)))) rfl ⟨rfl, (by (repeat' (first | (with_reducible exact Ext.refl _) | (with_reducible assumption) | (with_reducible refine Ext.alloc ?_ _) | (with_reducible refine Ext.drew ?_) | (with_reducible refine Ext.drewN ?_ _) | (with_reducible refine Ext.setCell ?_ ?_ _) | (with_reducible refine Ext.trans ?_ (by assumption)))) <;> (first | (with_reducible assumption) | omega | (simp; done) | (simp; omega)))⟩
theorem ft63 {g : Nat → Int} {n v : Nat} (hv : v = 1 ∨ v = 2 ∨ v = 3 ∨ v = 6) (hg : ∀ j, j < n → ftOk g v j = true) : ∀ j, j < n → 0 ≤ g j ∧ g j ≤ 63 := fun j hj => by
  have := (inR_iff _ _ _).1 (hg j hj)
  refine ⟨this.1, Int.le_trans this.2 ?_⟩
  rcases hv with rfl | rfl | rfl | rfl <;> decide
theorem FromTile_out (n v : Nat) (g : Nat → Int) (hn : dv (n : Int) = true) (hv : dv (v : Int) = true) (j0 : Nat) (hj0 : j0 < n) (hbad : ftOk g v j0 = false) (hg : ∀ j, j < j0 → ftOk g v j = true) (B : Nat) (u : Value) (w : World) (ho : w.ownsRow B 3 1 u n (Gl n g)) :
    Calls Try.prog 12 #[u, .int .i64 (v : Int)] w fun e w' => e = .returned (.tuple #[(.agg #[.int .i64 0, .int .i64 0, .int .i64 0, .int .i64 0, .int .i64 0, .int .i64 0]), .bool false]) ∧ Ext w w' := by
  have H1 := Lib.hid (fun w => isDivisor_is (n : Int) _ hn w)
  have H2 := Lib.hid (fun w => isDivisor_is (v : Int) _ hv w)
  have hn6 : n ≤ 6 := by have := dv_four hn; omega
  have HC := Lib.hid (fun (b : Nat) (w : World) (hb : b < w.heap.size) (h : w.cell? ⟨b, 0, none⟩ = some (.int .i64 (v : Int))) (ho : w.ownsRow B 3 1 u n (Gl n g)) =>
    containsF_is 50 #[.pointer (some ⟨b, 0, none⟩)] u (j0 : Int) true (by simp) w (indexF_some 50 #[.pointer (some ⟨b, 0, none⟩)] n j0 g hj0 (by omega) Try.call50 B u w ho (fun k hk w' hx => FromTile1_n (g k) v (dv_four hv) b w' ((hx.cells _ _ hb).trans h) _ (by
      rcases Nat.lt_or_ge k j0 with h1 | h1
      · have h2 := hg k h1
        unfold ftOk at h2
        rw [h2, decide_eq_false (by omega)]; rfl
      · obtain rfl : k = j0 := by omega
        unfold ftOk at hbad
        rw [hbad, decide_eq_true rfl]; rfl))))
  obtain ⟨ao, cap, rfl, _⟩ := own_shape ho
  have HO := Lib.hid ho
  clear ho hn hv hbad hg
  skip
  go_enter Try.func12, Try.ntmps12
  have tk0 := Lib.hid True.intro
  have HX4 := Lib.hid (show Ext w ((((w.alloc (.cells #[.slice ao n cap] 31)).alloc (.cells #[.int .i64 (v : Int)] 3)).alloc (.cells #[.int .i64 0, .int .i64 0, .int .i64 0, .int .i64 0, .int .i64 0, .int .i64 0] 33)).alloc (.cells #[.int .i64 (n : Int)] 3)) from ((((Ext.refl w).alloc _).alloc _).alloc _).alloc _)
  have HC4 := Lib.hid ((((((Ext.refl ((w.alloc (.cells #[.slice ao n cap] 31)).alloc (.cells #[.int .i64 (v : Int)] 3))).alloc (.cells #[.int .i64 0, .int .i64 0, .int .i64 0, .int .i64 0, .int .i64 0, .int .i64 0] 33)).alloc (.cells #[.int .i64 (n : Int)] 3)).cells (w.heap.size + 1) 0 (by simp)).trans (World.cell?_alloc_at (w := w.alloc (.cells #[.slice ao n cap] 31)) #[.int .i64 (v : Int)] 3 _ _ (by simp))))
  have HR4 := Lib.hid ((Arr.new0 ((w.alloc (.cells #[.slice ao n cap] 31)).alloc (.cells #[.int .i64 (v : Int)] 3)) 33 (b := w.heap.size + 1 + 1) (by simp)).alloc (.cells #[.int .i64 (n : Int)] 3) (by simp))
  have HO4 := Lib.hid (own_ext HO.out HX4.out)
  go_wp2_with (first | (clear tk0; (go_at_call 48; refine (H1.out _).mono ?_; rintro e w' ⟨rfl, rfl⟩)) | (go_at_call 48; refine (H2.out _).mono ?_; rintro e w' ⟨rfl, rfl⟩) | (go_at_call 49; refine (HC.out (w.heap.size + 1) _ (by simp) HC4.out HO4.out).mono ?_; rintro e w1 ⟨rfl, hE⟩; have HR := Lib.hid (HR4.out.ext hE (by simp)); have HX := Lib.hid (HX4.out.trans hE); obtain ⟨⟨d0, d1, d2, d3, d4, d5⟩, f0, f1, f2, f3, f4, f5⟩ := HR.out.all))
  exact bodyPost_ret (ret_cell_tmp rfl rfl rfl (load_sheet (HR.out.six (fun _ => 0)))) rfl ⟨rfl, (((((HX.out.setCell (by dsimp only; omega) _).setCell (by dsimp only; omega) _).setCell (by dsimp only; omega) _).setCell (by dsimp only; omega) _).setCell (by dsimp only; omega) _).setCell (by dsimp only; omega) _⟩
theorem FromTile_ok (n v : Nat) (g : Nat → Int) (hn : dv (n : Int) = true) (hv : dv (v : Int) = true) (hg : ∀ j, j < n → ftOk g v j = true) (B : Nat) (u : Value) (w : World) (ho : w.ownsRow B 3 1 u n (Gl n g)) :
    Calls Try.prog 12 #[u, .int .i64 (v : Int)] w fun e w' => e = .returned (.tuple #[(.agg #[.int .i64 (rw (ftZ g n v 36) 0), .int .i64 (rw (ftZ g n v 36) 1), .int .i64 (rw (ftZ g n v 36) 2), .int .i64 (rw (ftZ g n v 36) 3), .int .i64 (rw (ftZ g n v 36) 4), .int .i64 (rw (ftZ g n v 36) 5)]), .bool true]) ∧ Ext w w' := by
  have H1 := Lib.hid (fun w => isDivisor_is (n : Int) _ hn w)
  have H2 := Lib.hid (fun w => isDivisor_is (v : Int) _ hv w)
  have hn6 : n ≤ 6 := by have := dv_four hn; omega
  have HC := Lib.hid (fun (b : Nat) (w : World) (hb : b < w.heap.size) (h : w.cell? ⟨b, 0, none⟩ = some (.int .i64 (v : Int))) (ho : w.ownsRow B 3 1 u n (Gl n g)) =>
    containsF_is 50 #[.pointer (some ⟨b, 0, none⟩)] u (-1) false (by decide) w (indexF_none 50 #[.pointer (some ⟨b, 0, none⟩)] n g (by omega) Try.call50 B u w ho (fun k hk w' hx => FromTile1_n (g k) v (dv_four hv) b w' ((hx.cells _ _ hb).trans h) _ (by
      have h2 := hg k hk
      unfold ftOk at h2
      rw [h2]; rfl))))
  have HWH := Lib.hid (fun (b c d : Nat) (w : World) (hb : b < w.heap.size) (hc : c < w.heap.size) (hd : d < w.heap.size) (h1 : w.cell? ⟨b, 0, none⟩ = some u) (h2 : w.cell? ⟨c, 0, none⟩ = some (.int .i64 (n : Int))) (h3 : w.cell? ⟨d, 0, none⟩ = some (.int .i64 (v : Int))) (ho : w.ownsRow B 3 1 u n (Gl n g)) =>
    where_any 52 #[.pointer (some ⟨b, 0, none⟩), .pointer (some ⟨c, 0, none⟩), .pointer (some ⟨d, 0, none⟩)] (ftB g n v) w Try.call52 fun k hk w' hx =>
      FromTile2_n n v k g (dv_four hn) (dv_four hv) hk (ft63 (dv_four hv) hg) b c d B u w' ((hx.cells _ _ hb).trans h1) ((hx.cells _ _ hc).trans h2) ((hx.cells _ _ hd).trans h3) (Nat.lt_of_lt_of_le hb hx.size) (Nat.lt_of_lt_of_le hc hx.size) (Nat.lt_of_lt_of_le hd hx.size) (own_ext ho hx))
  have HSH := Lib.hid (fun w => sheet_n (ftZ g n v 36) (ftZ_lt g n v 36 (by omega)) w)
  rw [show mkN (ftB g n v) 36 = ftZ g n v 36 by unfold ftZ; rfl] at HWH
  obtain ⟨ao, cap, rfl, _⟩ := own_shape ho
  have HO := Lib.hid ho
  clear ho hn hv hg
  generalize ftZ g n v 36 = z at *
  skip
  go_enter Try.func12, Try.ntmps12
  have tk0 := Lib.hid True.intro
  have HX4 := Lib.hid (show Ext w ((((w.alloc (.cells #[.slice ao n cap] 31)).alloc (.cells #[.int .i64 (v : Int)] 3)).alloc (.cells #[.int .i64 0, .int .i64 0, .int .i64 0, .int .i64 0, .int .i64 0, .int .i64 0] 33)).alloc (.cells #[.int .i64 (n : Int)] 3)) from ((((Ext.refl w).alloc _).alloc _).alloc _).alloc _)
  have HB4 := Lib.hid (((((((Ext.refl (w.alloc (.cells #[.slice ao n cap] 31))).alloc (.cells #[.int .i64 (v : Int)] 3))).alloc (.cells #[.int .i64 0, .int .i64 0, .int .i64 0, .int .i64 0, .int .i64 0, .int .i64 0] 33)).alloc (.cells #[.int .i64 (n : Int)] 3)).cells w.heap.size 0 (by simp)).trans (World.cell?_alloc_at (w := w) #[.slice ao n cap] 31 _ _ rfl))
  have HC4 := Lib.hid ((((((Ext.refl ((w.alloc (.cells #[.slice ao n cap] 31)).alloc (.cells #[.int .i64 (v : Int)] 3))).alloc (.cells #[.int .i64 0, .int .i64 0, .int .i64 0, .int .i64 0, .int .i64 0, .int .i64 0] 33)).alloc (.cells #[.int .i64 (n : Int)] 3)).cells (w.heap.size + 1) 0 (by simp)).trans (World.cell?_alloc_at (w := w.alloc (.cells #[.slice ao n cap] 31)) #[.int .i64 (v : Int)] 3 _ _ (by simp))))
  have HD4 := Lib.hid (World.cell?_alloc_at (w := ((w.alloc (.cells #[.slice ao n cap] 31)).alloc (.cells #[.int .i64 (v : Int)] 3)).alloc (.cells #[.int .i64 0, .int .i64 0, .int .i64 0, .int .i64 0, .int .i64 0, .int .i64 0] 33)) #[.int .i64 (n : Int)] 3 (w.heap.size + 1 + 1 + 1) 0 (by simp))
  have HR4 := Lib.hid ((Arr.new0 ((w.alloc (.cells #[.slice ao n cap] 31)).alloc (.cells #[.int .i64 (v : Int)] 3)) 33 (b := w.heap.size + 1 + 1) (by simp)).alloc (.cells #[.int .i64 (n : Int)] 3) (by simp))
  have HO4 := Lib.hid (own_ext HO.out HX4.out)
  go_wp2_with (first | (clear tk0; (go_at_call 48; refine (H1.out _).mono ?_; rintro e w' ⟨rfl, rfl⟩)) | (go_at_call 48; refine (H2.out _).mono ?_; rintro e w' ⟨rfl, rfl⟩) | (go_at_call 49; refine (HC.out (w.heap.size + 1) _ (by simp) HC4.out HO4.out).mono ?_; rintro e w1 ⟨rfl, hE⟩; have HR := Lib.hid (HR4.out.ext hE (by simp)); have HX := Lib.hid (HX4.out.trans hE); have hz := hE.size; simp at hz; have HO5 := Lib.hid (own_ext HO4.out hE); have HB5 := Lib.hid ((hE.cells _ _ (by simp; omega)).trans HB4.out); have HC5 := Lib.hid ((hE.cells _ _ (by simp)).trans HC4.out); have HD5 := Lib.hid ((hE.cells _ _ (by simp)).trans HD4.out); obtain ⟨wa, rfl⟩ : ∃ x, x = w1 := ⟨_, rfl⟩) | (go_at_call 51; refine (HWH.out w.heap.size (w.heap.size + 1 + 1 + 1) (w.heap.size + 1) wa (by omega) (by omega) (by omega) HB5.out HD5.out HC5.out HO5.out).mono ?_; rintro e w1 ⟨rfl, hE2⟩; obtain ⟨wb, rfl⟩ : ∃ x, x = w1 := ⟨_, rfl⟩) | (go_at_call 53; refine (HSH.out _).mono ?_; rintro e w1 ⟨rfl, hE3⟩; have HR6 := Lib.hid ((HR.out.ext hE2 (by omega)).ext hE3 (by have := hE2.size; omega)); have HX6 := Lib.hid ((HX.out.trans hE2).trans hE3); obtain ⟨⟨d0, d1, d2, d3, d4, d5⟩, f0, f1, f2, f3, f4, f5⟩ := HR6.out.all))
  exact bodyPost_ret (ret_cell_tmp rfl rfl rfl (load_sheet (HR6.out.six (rw z)))) rfl ⟨rfl, (((((HX6.out.setCell (by dsimp only; omega) _).setCell (by dsimp only; omega) _).setCell (by dsimp only; omega) _).setCell (by dsimp only; omega) _).setCell (by dsimp only; omega) _).setCell (by dsimp only; omega) _⟩
end Go.Proofs.Ytpopipacegkkbaa
