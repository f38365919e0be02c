/- VLst2 Kp3 DrawC DrawW: contracts of functions, and lemmas, for this seat. Conditions: as each states. -/
import Derived.Test.YtlifhoajamnehaaTd21
import Derived.Test.YtlifhoajamnehaaTd19
import Derived.Test.YtlifhoajamnehaaTd20
import Derived.Test.YtlifhoajamnehaaTd04
import Derived.Test.YtlifhoajamnehaaTd12
import Derived.Test.YtlifhoajamnehaaTd11
import Derived.Test.YtlifhoajamnehaaTd15
set_option linter.unusedVariables false
set_option linter.unusedSimpArgs false
set_option maxRecDepth 100000
set_option maxHeartbeats 1000000
namespace Go.Proofs.Ytlifhoajamnehaa
open Go Go.RowKit Instr
open Instr
theorem rCells_same (B C n : Nat) (g : Nat → Int) (v u : Value) (w : World) (hn : n < 2000000) (h : w.ownsRow B 33 2 v n (Gl (n * 2) g)) (k : w.ownsRow C 33 2 u n (Gl (n * 2) g)) :
    Calls Try.prog 70 #[v, u] w fun e w' => e = .returned (.bool true) ∧ Ext w w' := by
  obtain ⟨ao, cap, rfl, ha⟩ := own_shape h
  obtain ⟨bo, cup, rfl, hb⟩ := own_shape k
  by_cases h0 : n = 0
  · subst h0
    clear h k ha hb
    go_enter Try.func70, Try.ntmps70
    go_wp2
    go_loopw [5] (fun i wr => i = .int .i64 0 ∧ Ext w wr) (fun _ _ => 0)
    case atStart => exact ⟨rfl, (by (repeat' (first | (with_reducible exact Ext.refl _) | (with_reducible assumption) | (with_reducible refine Ext.alloc ?_ _) | (with_reducible refine Ext.drew ?_) | (with_reducible refine Ext.drewN ?_ _) | (with_reducible refine Ext.setCell ?_ ?_ _) | (with_reducible refine Ext.trans ?_ (by assumption)))) <;> (first | (with_reducible assumption) | omega | (simp; done) | (simp; omega)))⟩
    case round =>
      obtain ⟨rfl, hx⟩ := hrel
      go_wp2
      go_returns
      exact ⟨rfl, (by (repeat' (first | (with_reducible exact Ext.refl _) | (with_reducible assumption) | (with_reducible refine Ext.alloc ?_ _) | (with_reducible refine Ext.drew ?_) | (with_reducible refine Ext.drewN ?_ _) | (with_reducible refine Ext.setCell ?_ ?_ _) | (with_reducible refine Ext.trans ?_ (by assumption)))) <;> (first | (with_reducible assumption) | omega | (simp; done) | (simp; omega)))⟩
  · obtain ⟨a, rfl, _, ha⟩ := ha (by omega)
    obtain ⟨b, rfl, _, hb⟩ := hb (by omega)
    have H := Lib.hid h
    have K := Lib.hid k
    clear h k
    skip
    go_enter Try.func70, Try.ntmps70
    go_wp2
    go_loopw [5] (fun i wr => ∃ j : Nat, j ≤ n ∧ i = .int .i64 j ∧ Ext w wr) (fun i _ => n - (intOf i).toNat)
    case atStart => exact ⟨0, Nat.zero_le _, rfl, (by (repeat' (first | (with_reducible exact Ext.refl _) | (with_reducible assumption) | (with_reducible refine Ext.alloc ?_ _) | (with_reducible refine Ext.drew ?_) | (with_reducible refine Ext.drewN ?_ _) | (with_reducible refine Ext.setCell ?_ ?_ _) | (with_reducible refine Ext.trans ?_ (by assumption)))) <;> (first | (with_reducible assumption) | omega | (simp; done) | (simp; omega)))⟩
    case round =>
      obtain ⟨j, hj, rfl, hx⟩ := hrel
      obtain ⟨wo, rfl⟩ : ∃ wo : World, wo = wr := ⟨_, rfl⟩
      by_cases hlt : j < n
      · have hs := hx.size
        have c1 := ((own_ext H.out hx).cellAt (j * 2) (by omega)).trans (Gl_get (by omega))
        have c2 := ((own_ext H.out hx).cellAt (j * 2 + 1) (by omega)).trans (Gl_get (by omega))
        have d1 := ((own_ext K.out hx).cellAt (j * 2) (by omega)).trans (Gl_get (by omega))
        have d2 := ((own_ext K.out hx).cellAt (j * 2 + 1) (by omega)).trans (Gl_get (by omega))
        have za : a < wo.heap.size := by omega
        have zb : b < wo.heap.size := by omega
        have nq := neq2_is (g (j * 2)) (g (j * 2 + 1)) (g (j * 2)) (g (j * 2 + 1)) false (by simp)
        go_wp2
        refine wp_calm0 (by kernel_rfl) (by kernel_rfl) ?_; intro hgr; (refine walkQ_step (fun K hK => ?_); go_simp; (try (go_ints; try go_simp)); first | (refine hK _ ?_; clear hK K) | (apply Exists.intro; refine ⟨fun _ => ?_, hK _ ?_⟩; (fail); clear hK K) | (simp only [↓IntWalk.iteOmega]; (try go_simp); (try (go_ints; try go_simp)); first | (refine hK _ ?_; clear hK K) | (apply Exists.intro; refine ⟨fun _ => ?_, hK _ ?_⟩; (fail); clear hK K))); (refine walkQ_step (fun K hK => ?_); go_simp; (try (go_ints; try go_simp)); first | (refine hK _ ?_; clear hK K) | (apply Exists.intro; refine ⟨fun _ => ?_, hK _ ?_⟩; (fail); clear hK K) | (simp only [↓IntWalk.iteOmega]; (try go_simp); (try (go_ints; try go_simp)); first | (refine hK _ ?_; clear hK K) | (apply Exists.intro; refine ⟨fun _ => ?_, hK _ ?_⟩; (fail); clear hK K))); (refine walkQ_step (fun K hK => ?_); go_simp; (try (go_ints; try go_simp)); first | (refine hK _ ?_; clear hK K) | (apply Exists.intro; refine ⟨fun _ => ?_, hK _ ?_⟩; (fail); clear hK K) | (simp only [↓IntWalk.iteOmega]; (try go_simp); (try (go_ints; try go_simp)); first | (refine hK _ ?_; clear hK K) | (apply Exists.intro; refine ⟨fun _ => ?_, hK _ ?_⟩; (fail); clear hK K))); (refine walkQ_step (fun K hK => ?_); go_simp; (try (go_ints; try go_simp)); first | (refine hK _ ?_; clear hK K) | (apply Exists.intro; refine ⟨fun _ => ?_, hK _ ?_⟩; (fail); clear hK K) | (simp only [↓IntWalk.iteOmega]; (try go_simp); (try (go_ints; try go_simp)); first | (refine hK _ ?_; clear hK K) | (apply Exists.intro; refine ⟨fun _ => ?_, hK _ ?_⟩; (fail); clear hK K))); (refine walkQ_step (fun K hK => ?_); go_simp; (try (go_ints; try go_simp)); first | (refine hK _ ?_; clear hK K) | (apply Exists.intro; refine ⟨fun _ => ?_, hK _ ?_⟩; (fail); clear hK K) | (simp only [↓IntWalk.iteOmega]; (try go_simp); (try (go_ints; try go_simp)); first | (refine hK _ ?_; clear hK K) | (apply Exists.intro; refine ⟨fun _ => ?_, hK _ ?_⟩; (fail); clear hK K))); (refine walkQ_step (fun K hK => ?_); go_simp; (try (go_ints; try go_simp)); first | (refine hK _ ?_; clear hK K) | (apply Exists.intro; refine ⟨fun _ => ?_, hK _ ?_⟩; (fail); clear hK K) | (simp only [↓IntWalk.iteOmega]; (try go_simp); (try (go_ints; try go_simp)); first | (refine hK _ ?_; clear hK K) | (apply Exists.intro; refine ⟨fun _ => ?_, hK _ ?_⟩; (fail); clear hK K))); (refine walkQ_step (fun K hK => ?_); go_simp; (try (go_ints; try go_simp)); first | (refine hK _ ?_; clear hK K) | (apply Exists.intro; refine ⟨fun _ => ?_, hK _ ?_⟩; (fail); clear hK K) | (simp only [↓IntWalk.iteOmega]; (try go_simp); (try (go_ints; try go_simp)); first | (refine hK _ ?_; clear hK K) | (apply Exists.intro; refine ⟨fun _ => ?_, hK _ ?_⟩; (fail); clear hK K))); (refine walkQ_step (fun K hK => ?_); go_simp; (try (go_ints; try go_simp)); first | (refine hK _ ?_; clear hK K) | (apply Exists.intro; refine ⟨fun _ => ?_, hK _ ?_⟩; (fail); clear hK K) | (simp only [↓IntWalk.iteOmega]; (try go_simp); (try (go_ints; try go_simp)); first | (refine hK _ ?_; clear hK K) | (apply Exists.intro; refine ⟨fun _ => ?_, hK _ ?_⟩; (fail); clear hK K))); (refine walkQ_step (fun K hK => ?_); go_simp; (try (go_ints; try go_simp)); first | (refine hK _ ?_; clear hK K) | (apply Exists.intro; refine ⟨fun _ => ?_, hK _ ?_⟩; (fail); clear hK K) | (simp only [↓IntWalk.iteOmega]; (try go_simp); (try (go_ints; try go_simp)); first | (refine hK _ ?_; clear hK K) | (apply Exists.intro; refine ⟨fun _ => ?_, hK _ ?_⟩; (fail); clear hK K))); refine walkQ_nil ?_; clear hgr; intro w1 hE; have hc2 := hE.cells; have hf2 := hE.frees; have hz2 := hE.size
        replace hE : Ext wo w1 := ((Ext.refl wo).drew).trans hE
        go_wp2
        refine ⟨⟨j + 1, by omega, by go_num, (by (repeat' (first | (with_reducible exact Ext.refl _) | (with_reducible assumption) | (with_reducible refine Ext.alloc ?_ _) | (with_reducible refine Ext.drew ?_) | (with_reducible refine Ext.drewN ?_ _) | (with_reducible refine Ext.setCell ?_ ?_ _) | (with_reducible refine Ext.trans ?_ (by assumption)))) <;> (first | (with_reducible assumption) | omega | (simp; done) | (simp; omega)))⟩, by simp [intOf]; omega⟩
      · obtain rfl : j = n := by omega
        go_wp2
        go_returns
        exact ⟨rfl, (by (repeat' (first | (with_reducible exact Ext.refl _) | (with_reducible assumption) | (with_reducible refine Ext.alloc ?_ _) | (with_reducible refine Ext.drew ?_) | (with_reducible refine Ext.drewN ?_ _) | (with_reducible refine Ext.setCell ?_ ?_ _) | (with_reducible refine Ext.trans ?_ (by assumption)))) <;> (first | (with_reducible assumption) | omega | (simp; done) | (simp; omega)))⟩
open Instr
theorem vInts_same (B C n : Nat) (g : Nat → Int) (v u : Value) (w : World) (hn : n < 2000000) (h : w.ownsRow B 3 1 v n (Gl n g)) (k : w.ownsRow C 3 1 u n (Gl n g)) :
    Calls Try.prog 58 #[v, u] w fun e w' => e = .returned (.bool true) ∧ Ext w w' := by
  obtain ⟨ao, cap, rfl, ha⟩ := own_shape h
  obtain ⟨bo, cup, rfl, hb⟩ := own_shape k
  by_cases h0 : n = 0
  · subst h0
    clear h k ha hb
    go_enter Try.func58, Try.ntmps58
    go_wp2
    go_loopw [5] (fun i wr => i = .int .i64 0 ∧ Ext w wr) (fun _ _ => 0)
    case atStart => exact ⟨rfl, (by (repeat' (first | (with_reducible exact Ext.refl _) | (with_reducible assumption) | (with_reducible refine Ext.alloc ?_ _) | (with_reducible refine Ext.drew ?_) | (with_reducible refine Ext.drewN ?_ _) | (with_reducible refine Ext.setCell ?_ ?_ _) | (with_reducible refine Ext.trans ?_ (by assumption)))) <;> (first | (with_reducible assumption) | omega | (simp; done) | (simp; omega)))⟩
    case round =>
      obtain ⟨rfl, hx⟩ := hrel
      go_wp2
      go_returns
      exact ⟨rfl, (by (repeat' (first | (with_reducible exact Ext.refl _) | (with_reducible assumption) | (with_reducible refine Ext.alloc ?_ _) | (with_reducible refine Ext.drew ?_) | (with_reducible refine Ext.drewN ?_ _) | (with_reducible refine Ext.setCell ?_ ?_ _) | (with_reducible refine Ext.trans ?_ (by assumption)))) <;> (first | (with_reducible assumption) | omega | (simp; done) | (simp; omega)))⟩
  · obtain ⟨a, rfl, _, ha⟩ := ha (by omega)
    obtain ⟨b, rfl, _, hb⟩ := hb (by omega)
    have H := Lib.hid h
    have K := Lib.hid k
    clear h k
    skip
    go_enter Try.func58, Try.ntmps58
    go_wp2
    go_loopw [5] (fun i wr => ∃ j : Nat, j ≤ n ∧ i = .int .i64 j ∧ Ext w wr) (fun i _ => n - (intOf i).toNat)
    case atStart => exact ⟨0, Nat.zero_le _, rfl, (by (repeat' (first | (with_reducible exact Ext.refl _) | (with_reducible assumption) | (with_reducible refine Ext.alloc ?_ _) | (with_reducible refine Ext.drew ?_) | (with_reducible refine Ext.drewN ?_ _) | (with_reducible refine Ext.setCell ?_ ?_ _) | (with_reducible refine Ext.trans ?_ (by assumption)))) <;> (first | (with_reducible assumption) | omega | (simp; done) | (simp; omega)))⟩
    case round =>
      obtain ⟨j, hj, rfl, hx⟩ := hrel
      obtain ⟨wo, rfl⟩ : ∃ wo : World, wo = wr := ⟨_, rfl⟩
      by_cases hlt : j < n
      · have hs := hx.size
        have c1 := ((own_ext H.out hx).cellAt j (by omega)).trans (Gl_get (by omega))
        have d1 := ((own_ext K.out hx).cellAt j (by omega)).trans (Gl_get (by omega))
        have za : a < wo.heap.size := by omega
        have zb : b < wo.heap.size := by omega
        go_wp2
        refine wp_calm0 (by kernel_rfl) (by kernel_rfl) ?_; intro hgr; (refine walkQ_step (fun K hK => ?_); go_simp; (try (go_ints; try go_simp)); first | (refine hK _ ?_; clear hK K) | (apply Exists.intro; refine ⟨fun _ => ?_, hK _ ?_⟩; (fail); clear hK K) | (simp only [↓IntWalk.iteOmega]; (try go_simp); (try (go_ints; try go_simp)); first | (refine hK _ ?_; clear hK K) | (apply Exists.intro; refine ⟨fun _ => ?_, hK _ ?_⟩; (fail); clear hK K))); (refine walkQ_step (fun K hK => ?_); go_simp; (try (go_ints; try go_simp)); first | (refine hK _ ?_; clear hK K) | (apply Exists.intro; refine ⟨fun _ => ?_, hK _ ?_⟩; (fail); clear hK K) | (simp only [↓IntWalk.iteOmega]; (try go_simp); (try (go_ints; try go_simp)); first | (refine hK _ ?_; clear hK K) | (apply Exists.intro; refine ⟨fun _ => ?_, hK _ ?_⟩; (fail); clear hK K))); (refine walkQ_step (fun K hK => ?_); go_simp; (try (go_ints; try go_simp)); first | (refine hK _ ?_; clear hK K) | (apply Exists.intro; refine ⟨fun _ => ?_, hK _ ?_⟩; (fail); clear hK K) | (simp only [↓IntWalk.iteOmega]; (try go_simp); (try (go_ints; try go_simp)); first | (refine hK _ ?_; clear hK K) | (apply Exists.intro; refine ⟨fun _ => ?_, hK _ ?_⟩; (fail); clear hK K))); (refine walkQ_step (fun K hK => ?_); go_simp; (try (go_ints; try go_simp)); first | (refine hK _ ?_; clear hK K) | (apply Exists.intro; refine ⟨fun _ => ?_, hK _ ?_⟩; (fail); clear hK K) | (simp only [↓IntWalk.iteOmega]; (try go_simp); (try (go_ints; try go_simp)); first | (refine hK _ ?_; clear hK K) | (apply Exists.intro; refine ⟨fun _ => ?_, hK _ ?_⟩; (fail); clear hK K))); (refine walkQ_step (fun K hK => ?_); go_simp; (try (go_ints; try go_simp)); first | (refine hK _ ?_; clear hK K) | (apply Exists.intro; refine ⟨fun _ => ?_, hK _ ?_⟩; (fail); clear hK K) | (simp only [↓IntWalk.iteOmega]; (try go_simp); (try (go_ints; try go_simp)); first | (refine hK _ ?_; clear hK K) | (apply Exists.intro; refine ⟨fun _ => ?_, hK _ ?_⟩; (fail); clear hK K))); (refine walkQ_step (fun K hK => ?_); go_simp; (try (go_ints; try go_simp)); first | (refine hK _ ?_; clear hK K) | (apply Exists.intro; refine ⟨fun _ => ?_, hK _ ?_⟩; (fail); clear hK K) | (simp only [↓IntWalk.iteOmega]; (try go_simp); (try (go_ints; try go_simp)); first | (refine hK _ ?_; clear hK K) | (apply Exists.intro; refine ⟨fun _ => ?_, hK _ ?_⟩; (fail); clear hK K))); (refine walkQ_step (fun K hK => ?_); go_simp; (try (go_ints; try go_simp)); first | (refine hK _ ?_; clear hK K) | (apply Exists.intro; refine ⟨fun _ => ?_, hK _ ?_⟩; (fail); clear hK K) | (simp only [↓IntWalk.iteOmega]; (try go_simp); (try (go_ints; try go_simp)); first | (refine hK _ ?_; clear hK K) | (apply Exists.intro; refine ⟨fun _ => ?_, hK _ ?_⟩; (fail); clear hK K))); (refine walkQ_step (fun K hK => ?_); go_simp; (try (go_ints; try go_simp)); first | (refine hK _ ?_; clear hK K) | (apply Exists.intro; refine ⟨fun _ => ?_, hK _ ?_⟩; (fail); clear hK K) | (simp only [↓IntWalk.iteOmega]; (try go_simp); (try (go_ints; try go_simp)); first | (refine hK _ ?_; clear hK K) | (apply Exists.intro; refine ⟨fun _ => ?_, hK _ ?_⟩; (fail); clear hK K))); (refine walkQ_step (fun K hK => ?_); go_simp; (try (go_ints; try go_simp)); first | (refine hK _ ?_; clear hK K) | (apply Exists.intro; refine ⟨fun _ => ?_, hK _ ?_⟩; (fail); clear hK K) | (simp only [↓IntWalk.iteOmega]; (try go_simp); (try (go_ints; try go_simp)); first | (refine hK _ ?_; clear hK K) | (apply Exists.intro; refine ⟨fun _ => ?_, hK _ ?_⟩; (fail); clear hK K))); refine walkQ_nil ?_; clear hgr; intro w1 hE; have hc2 := hE.cells; have hf2 := hE.frees; have hz2 := hE.size
        replace hE : Ext wo w1 := ((Ext.refl wo).drew).trans hE
        go_wp2
        refine ⟨⟨j + 1, by omega, by go_num, (by (repeat' (first | (with_reducible exact Ext.refl _) | (with_reducible assumption) | (with_reducible refine Ext.alloc ?_ _) | (with_reducible refine Ext.drew ?_) | (with_reducible refine Ext.drewN ?_ _) | (with_reducible refine Ext.setCell ?_ ?_ _) | (with_reducible refine Ext.trans ?_ (by assumption)))) <;> (first | (with_reducible assumption) | omega | (simp; done) | (simp; omega)))⟩, by simp [intOf]; omega⟩
      · obtain rfl : j = n := by omega
        go_wp2
        go_returns
        exact ⟨rfl, (by (repeat' (first | (with_reducible exact Ext.refl _) | (with_reducible assumption) | (with_reducible refine Ext.alloc ?_ _) | (with_reducible refine Ext.drew ?_) | (with_reducible refine Ext.drewN ?_ _) | (with_reducible refine Ext.setCell ?_ ?_ _) | (with_reducible refine Ext.trans ?_ (by assumption)))) <;> (first | (with_reducible assumption) | omega | (simp; done) | (simp; omega)))⟩
theorem vHas_n (B n : Nat) (g : Nat → Int) (x : Int) (c : Bool) (hc : c = true ↔ ∃ j, j < n ∧ g j = x) (hn : n < 2000000) (v : Value) (w : World) (h : w.ownsRow B 3 1 v n (Gl n g)) :
    Calls Try.prog 59 #[v, .int .i64 x] w fun e w' => e = .returned (.bool c) ∧ Ext w w' := by
  obtain ⟨ao, cap, rfl, ha⟩ := own_shape h
  have H := Lib.hid h
  have HC := Lib.hid hc
  clear h hc
  skip
  go_enter Try.func59, Try.ntmps59
  go_wp2
  go_loopw [5] (fun i wr => ∃ j : Nat, j ≤ n ∧ i = .int .i64 j ∧ wr = w ∧ ∀ i : Nat, i < j → g i ≠ x) (fun i _ => n - (intOf i).toNat)
  case atStart => exact ⟨0, Nat.zero_le _, rfl, rfl, fun i hi => absurd hi (Nat.not_lt_zero _)⟩
  case round =>
    obtain ⟨j, hj, rfl, rfl, hno⟩ := hrel
    have HN := Lib.hid hno
    clear hno
    by_cases hlt : j < n
    · obtain ⟨a, rfl, _, ha⟩ := ha (by omega)
      have c1 := (H.out.cellAt j (by omega)).trans (Gl_get (by omega))
      obtain ⟨y, hy⟩ : ∃ y, y = g j := ⟨_, rfl⟩
      rw [← hy] at c1
      have HY := Lib.hid hy
      clear hy
      by_cases he : y = x
      · obtain rfl : c = true := HC.out.2 ⟨j, hlt, by rw [← HY.out, he]⟩
        subst he
        go_wp2
        go_returns
        exact ⟨rfl, (by (repeat' (first | (with_reducible exact Ext.refl _) | (with_reducible assumption) | (with_reducible refine Ext.alloc ?_ _) | (with_reducible refine Ext.drew ?_) | (with_reducible refine Ext.drewN ?_ _) | (with_reducible refine Ext.setCell ?_ ?_ _) | (with_reducible refine Ext.trans ?_ (by assumption)))) <;> (first | (with_reducible assumption) | omega | (simp; done) | (simp; omega)))⟩
      · have hb : (y == x) = false := by simpa using he
        go_wp2
        refine ⟨⟨j + 1, by omega, by go_num, by trivial, fun i hi => ?_⟩, by simp [intOf]; omega⟩
        rcases Nat.lt_or_ge i j with h1 | h1
        · exact HN.out i h1
        · obtain rfl : i = j := by omega
          rw [← HY.out]; exact he
    · obtain rfl : j = n := by omega
      obtain rfl : c = false := by
        cases c
        · rfl
        · obtain ⟨i, hi, e⟩ := HC.out.1 rfl
          exact absurd e (HN.out i hi)
      go_wp2
      go_returns
      exact ⟨rfl, (by (repeat' (first | (with_reducible exact Ext.refl _) | (with_reducible assumption) | (with_reducible refine Ext.alloc ?_ _) | (with_reducible refine Ext.drew ?_) | (with_reducible refine Ext.drewN ?_ _) | (with_reducible refine Ext.setCell ?_ ?_ _) | (with_reducible refine Ext.trans ?_ (by assumption)))) <;> (first | (with_reducible assumption) | omega | (simp; done) | (simp; omega)))⟩
end Go.Proofs.Ytlifhoajamnehaa
set_option linter.unusedVariables false
set_option linter.unusedSimpArgs false
set_option maxRecDepth 100000
set_option maxHeartbeats 1000000
namespace Go.Proofs.Ytlifhoajamnehaa
open Go Go.RowKit Instr
/-! what a law keeps of its own rows, and of its tables of 36 -/
def KpO (w : World) (B : Nat) (T : TypeId) (sz : Nat) (v : Value) (n : Nat) (xs : List Value) : Prop := w.ownsRow B T sz v n xs
theorem KpO.mk {w : World} {B : Nat} {T : TypeId} {sz : Nat} {v : Value} {n : Nat} {xs : List Value} (h : w.ownsRow B T sz v n xs) : KpO w B T sz v n xs := h
theorem KpO.row {w : World} {B : Nat} {T : TypeId} {sz : Nat} {v : Value} {n : Nat} {xs : List Value} (h : KpO w B T sz v n xs) : w.ownsRow B T sz v n xs := h
theorem KpO.ext {w w' : World} {B : Nat} {T : TypeId} {sz : Nat} {v : Value} {n : Nat} {xs : List Value} (h : KpO w B T sz v n xs) (hx : Ext w w') : KpO w' B T sz v n xs := own_ext h hx
theorem KpO.c6 {w : World} {B : Nat} {T : TypeId} {sz : Nat} {v : Value} {n : Nat} {xs : List Value} (h : KpO w B T sz v n xs) : True := trivial
theorem ints_Gl (L : List Nat) : ints L = Gl L.length (fun j => ((L[j]?).getD 0 : Nat)) := by
  refine List.ext_getElem? fun i => ?_
  rcases Nat.lt_or_ge i L.length with h | h
  · rw [Gl_get h, ints_get L i L[i] (List.getElem?_eq_getElem h), List.getElem?_eq_getElem h]
    rfl
  · rw [List.getElem?_eq_none (by rw [ints_length]; exact h), List.getElem?_eq_none (by unfold Gl; simp; exact h)]
def KpM (w : World) (b : Nat) (g : Nat → Int) : Prop := Big w b 65 36 g
theorem KpM.mk {w : World} {b : Nat} {g : Nat → Int} (h : Big w b 65 36 g) : KpM w b g := h
theorem KpM.ext {w w' : World} {b : Nat} {g : Nat → Int} (h : KpM w b g) (hx : Ext w w') : KpM w' b g := Big.ext h hx
theorem KpM.c6 {w : World} {b : Nat} {g : Nat → Int} (h : KpM w b g) : b < w.heap.size := Big.lt h
theorem eq36_same (g : Nat → Int) : eq36 g g = true := by unfold eq36; simp
theorem neq36_is (g : Nat → Int) : ∀ w, (binOp .neq 65 (.agg (av 36 g)) (.agg (av 36 g))).run Try.prog w = .ok (.bool false) w := fun w => by
  rw [run_neq_struct, run_equalIn_array w 9999 _ _ Try.underlying65 (i := (Try.prog.info? 24).getD default) (by kernel_rfl), show Try.prog.cellsOf 24 = 6 by kernel_rfl, items6_eq g g w _ (by simp)]
  rw [show ((List.range 6).all fun k => (List.range 6).all fun q => row6 g k q == row6 g k q) = eq36 g g from rfl, eq36_same]
  rfl
theorem wpList_load_rowG {P : Program} {ops : Array Oper} {rest : List Oper} {o : Oper} {a : Act} {w : World} {Q : Exit → Act → World → Prop} (hgd : Region.wanted o (yielded ops a.tmps) = true) (ty : TypeId) (x : Operand) (ho : o.op = .load ty x)
    (g : Nat) (hx : a.eval x = .pointer (some ⟨g, 0, none⟩)) (t : TypeId) (cs : Array Value) (fr : Nat × Nat) (d : TypeDesc) (hg : w.heap[g]? = some (.cells cs t fr))
    (hu : P.underlying ty = some d) (hd : (match d with | .struct _ | .array _ _ => true | _ => false) = true) (hi : (P.info? ty).map (·.size) = some cs.size)
    (h : wpList P ops Q rest (a.put o.dst (.agg cs)) w) : wpList P ops Q (o :: rest) a w :=
  BigFrame.wpList_want hgd fun _ hK => wp_load_row ty x ho g hx t cs fr d hg hu hd hi (hK _ _ h)
theorem vInts_ints (B C : Nat) (L : List Nat) (v u : Value) (w : World) (hn : L.length < 2000000) (h : w.ownsRow B 3 1 v L.length (ints L)) (k : w.ownsRow C 3 1 u L.length (ints L)) :
    Calls Try.prog 58 #[v, u] w fun e w' => e = .returned (.bool true) ∧ Ext w w' := by
  rw [ints_Gl] at h k
  exact vInts_same B C L.length _ v u w hn h k
theorem vHas_ints (B : Nat) (L : List Nat) (x : Nat) (c : Bool) (hc : decide (x ∈ L) = c) (hn : L.length < 2000000) (v : Value) (w : World) (h : w.ownsRow B 3 1 v L.length (ints L)) :
    Calls Try.prog 59 #[v, .int .i64 (x : Int)] w fun e w' => e = .returned (.bool c) ∧ Ext w w' := by
  rw [ints_Gl] at h
  refine vHas_n B L.length _ (x : Int) c ?_ hn v w h
  rw [← hc, decide_eq_true_eq]
  constructor
  · intro hm
    obtain ⟨j, hj, e⟩ := List.getElem_of_mem hm
    exact ⟨j, hj, by rw [List.getElem?_eq_getElem hj, e]; rfl⟩
  · rintro ⟨j, hj, e⟩
    rw [List.getElem?_eq_getElem hj] at e
    have e2 : L[j] = x := by simp at e; omega
    rw [← e2]
    exact List.getElem_mem hj
end Go.Proofs.Ytlifhoajamnehaa
set_option linter.unusedVariables false
set_option linter.unusedSimpArgs false
set_option maxRecDepth 100000
set_option maxHeartbeats 16000000
namespace Go.Proofs.Ytlifhoajamnehaa
open Go Go.RowKit Instr
theorem heap_new (w : World) (o : Obj) : (w.alloc o).heap[w.heap.size]? = some o := by
  show (w.heap.push o)[w.heap.size]? = some o
  simp
theorem arr_heap {w : World} {b : Nat} {s : Nat → Int} {t : TypeId} (h : w.heap[b]? = some (.cells #[.int .i64 (s 0), .int .i64 (s 1), .int .i64 (s 2), .int .i64 (s 3), .int .i64 (s 4), .int .i64 (s 5)] t (0, 0))) : Arr w b s := by
  intro j hj
  have hj6 : j = 0 ∨ j = 1 ∨ j = 2 ∨ j = 3 ∨ j = 4 ∨ j = 5 := by omega
  rcases hj6 with rfl | rfl | rfl | rfl | rfl | rfl <;> exact ⟨by simp [World.cell?, h], by simp [World.frozen?, h]⟩
/-- what the draw of a stamp and cells knows -/
structure IK (c m p B : Nat) (s : Nat → Int) (w wr : World) (v : Value) (L : List Nat) : Prop where
  cur : Cur c m wr
  off : Off (fun k => k = c) w wr
  r1 : Arr wr p (fun _ => 0)
  r2 : Arr wr (p + 1) (fun _ => 0)
  box : wr.heap[B + 1]? = some (.cells #[.int .i64 (s 0), .int .i64 (s 1), .int .i64 (s 2), .int .i64 (s 3), .int .i64 (s 4), .int .i64 (s 5)] 26 (0, 0))
  own : wr.ownsRow B 33 2 v L.length (pxy L)
  lim : ∀ (i k : Nat), L[i]? = some k → k < 36
theorem IK.mono {c m k p B : Nat} {s : Nat → Int} {w wr : World} {v : Value} {L : List Nat} (h : IK c m p B s w wr v L) (hk : m ≤ k) : IK c k p B s w wr v L := { h with cur := cur_mono h.cur hk }
theorem IK.call {c m k p B : Nat} {s : Nat → Int} {w wr w' : World} {v : Value} {L : List Nat} (h : IK c m p B s w wr v L) (hcp : c < p) (hpB : p + 1 < B) (hc : Cur c k w') (hO : Off (fun k => k = c) wr w') : IK c k p B s w w' v L := by
  have hz := row_lt h.box
  exact ⟨hc, h.off.trans hO, h.r1.off hO (by omega) (by omega), h.r2.off hO (by omega) (by omega), (hO.block _ hz (by omega)).trans h.box, hO.own h.own (C := c + 1) (fun k hk => by omega) (by omega), h.lim⟩
theorem IK.ext {c m p B : Nat} {s : Nat → Int} {w wr w' : World} {v : Value} {L : List Nat} (h : IK c m p B s w wr v L) (hcp : c < p) (hpB : p + 1 < B) (hx : Ext wr w') : IK c m p B s w w' v L :=
  h.call hcp hpB (cur_ext h.cur hx) (hx.off _)
theorem IK.push {c m p B : Nat} {s : Nat → Int} {w wr w' : World} {v u : Value} {L : List Nat} {o : Obj} {k : Nat} (h : IK c m p B s w wr v L) (hcp : c < p) (hpB : p + 1 < B) (hwB : w.heap.size ≤ B) (hk : k < 36)
    (hg : (wr.alloc o).grownBy w' v.ownBlock) (ho : w'.ownsRow B 33 2 u (L ++ [k]).length (pxy (L ++ [k]))) : IK c m p B s w w' u (L ++ [k]) := by
  have h1 := h.ext hcp hpB ((Ext.refl wr).alloc o)
  have hlt : ∀ k, v.ownBlock = some k → B ≤ k := fun k e => (h.own.lt k e).1
  have hne : some (B + 1) ≠ v.ownBlock := fun e => by
    rcases h.own.2 with ⟨hv, _⟩ | ⟨g, cap, cur, hv, _, hgb, _⟩
    · rw [hv] at e; cases e
    · rw [hv] at e
      obtain rfl : B + 1 = g := by simpa [Value.ownBlock] using e
      rw [h.box] at hgb
      injection hgb with hgb
      injection hgb with _ h2
      exact absurd h2 (by decide)
  have hO : Off (fun k => v.ownBlock = some k) (wr.alloc o) w' := ⟨hg.os, hg.tape, hg.output, hg.size, fun k hk hs => hg.block k hk (fun e => hs e.symm)⟩
  have hz := row_lt h1.box
  refine ⟨cur_grownT h1.cur hg (fun k e => by have := hlt k e; omega), off_grownT h1.off hg (fun k e => by have := hlt k e; omega), h1.r1.off hO (by omega) (fun e => by have := hlt _ e; omega), h1.r2.off hO (by omega) (fun e => by have := hlt _ e; omega), (hg.block _ hz hne).trans h1.box, ho, fun i j hj => ?_⟩
  rcases Nat.lt_or_ge i L.length with hi | hi
  · rw [List.getElem?_append_left hi] at hj
    exact h.lim i j hj
  · rw [List.getElem?_append_right hi] at hj
    rcases Nat.eq_zero_or_pos (i - L.length) with e | e
    · rw [e] at hj; simp at hj; omega
    · rw [List.getElem?_eq_none (by simp; omega)] at hj; cases hj
theorem pxy_cell (x y : Nat) (hx : x < 6) : pxy [6 * y + x] = [.int .i64 (x : Int), .int .i64 (y : Int)] := by
  show [Value.int .i64 (((6 * y + x) % 6 : Nat) : Int), Value.int .i64 (((6 * y + x) / 6 : Nat) : Int)] = _
  rw [show (6 * y + x) % 6 = x by omega, show (6 * y + x) / 6 = y by omega]
theorem inked_n (c m M : Nat) (hM1 : 1 ≤ M) (hM : M ≤ 6) (hm : m + 400 ≤ 1099511627776) (w : World) (h : Cur c m w) : Calls Try.prog 131 #[.pointer (some ⟨c, 0, none⟩), .int .i64 (M : Int)] w fun e w' => ∃ r s : Nat → Int, Shy r ∧ Shy s ∧ e = .returned (.tuple #[(.agg #[.int .i64 (r 0), .int .i64 (r 1), .int .i64 (r 2), .int .i64 (r 3), .int .i64 (r 4), .int .i64 (r 5)]), (.agg #[.int .i64 (s 0), .int .i64 (s 1), .int .i64 (s 2), .int .i64 (s 3), .int .i64 (s 4), .int .i64 (s 5)])]) ∧ Cur c (m + 300) w' ∧ Off (fun k => k = c) w w' := by
  obtain ⟨i0, hi, iz0, iz1, iz2⟩ := info_parts info_two
  have hcp : c < w.heap.size := h.1
  have HX := Lib.hid (((Ext.refl w).alloc (.cells #[.int .i64 0, .int .i64 0, .int .i64 0, .int .i64 0, .int .i64 0, .int .i64 0] 26)).alloc (.cells #[.int .i64 0, .int .i64 0, .int .i64 0, .int .i64 0, .int .i64 0, .int .i64 0] 26))
  have HC := Lib.hid (cur_ext h HX.out)
  have HO := Lib.hid (HX.out.off (fun k => k = c))
  have HR := Lib.hid ((Arr.new0 w 26 rfl).alloc (.cells #[.int .i64 0, .int .i64 0, .int .i64 0, .int .i64 0, .int .i64 0, .int .i64 0] 26) (by simp))
  have HS := Lib.hid (Arr.new0 (w.alloc (.cells #[.int .i64 0, .int .i64 0, .int .i64 0, .int .i64 0, .int .i64 0, .int .i64 0] 26)) 26 (b := w.heap.size + 1) (by simp))
  have lHR : w.heap.size < ((w.alloc (.cells #[.int .i64 0, .int .i64 0, .int .i64 0, .int .i64 0, .int .i64 0, .int .i64 0] 26)).alloc (.cells #[.int .i64 0, .int .i64 0, .int .i64 0, .int .i64 0, .int .i64 0, .int .i64 0] 26)).heap.size := by simp; omega
  have lHS : w.heap.size + 1 < ((w.alloc (.cells #[.int .i64 0, .int .i64 0, .int .i64 0, .int .i64 0, .int .i64 0, .int .i64 0] 26)).alloc (.cells #[.int .i64 0, .int .i64 0, .int .i64 0, .int .i64 0, .int .i64 0, .int .i64 0] 26)).heap.size := by simp
  have nHR : ¬ (w.heap.size = c) := by omega
  have nHS : ¬ (w.heap.size + 1 = c) := by omega
  clear h HX
  skip
  have tk0 := Lib.hid True.intro; have tk1 := Lib.hid True.intro; have tk2 := Lib.hid True.intro; have tk3 := Lib.hid True.intro
  go_enter Try.func131, Try.ntmps131
  go_wp2_with (first
    | (clear tk0; ((go_at_call 135; refine (cStamp_s c m (by omega) _ (by first | exact HC.out | exact cur_ext HC.out ((Ext.refl _).alloc _) | exact cur_ext HC.out (((Ext.refl _).alloc _).alloc _))).mono ?_; rintro e w1 ⟨s, hss, rfl, hc, hO⟩; replace HC := Lib.hid hc; clear hc; replace HR := Lib.hid (Arr.off (by first | exact HR.out | exact Arr.alloc HR.out _ lHR) hO (by first | exact lHR | (simp; done) | (simp; omega)) nHR); replace lHR := Nat.lt_of_lt_of_le lHR (Nat.le_trans (by first | exact Nat.le_refl _ | (simp; done) | (simp; omega)) hO.size); (try clear hrd0 hrd1 hrd2 hrd3 hrd4 hrd5 hrf0 hrf1 hrf2 hrf3 hrf4 hrf5); obtain ⟨⟨hrd0, hrd1, hrd2, hrd3, hrd4, hrd5⟩, hrf0, hrf1, hrf2, hrf3, hrf4, hrf5⟩ := HR.out.all; replace HS := Lib.hid (Arr.off (by first | exact HS.out | exact Arr.alloc HS.out _ lHS) hO (by first | exact lHS | (simp; done) | (simp; omega)) nHS); replace lHS := Nat.lt_of_lt_of_le lHS (Nat.le_trans (by first | exact Nat.le_refl _ | (simp; done) | (simp; omega)) hO.size); (try clear hsd0 hsd1 hsd2 hsd3 hsd4 hsd5 hsf0 hsf1 hsf2 hsf3 hsf4 hsf5); obtain ⟨⟨hsd0, hsd1, hsd2, hsd3, hsd4, hsd5⟩, hsf0, hsf1, hsf2, hsf3, hsf4, hsf5⟩ := HS.out.all; replace HO := Lib.hid (Off.trans (by first | exact HO.out | exact HO.out.trans (((Ext.refl _).alloc _).off _) | exact HO.out.trans ((((Ext.refl _).alloc _).alloc _).off _)) hO); clear hO); obtain ⟨wb, rfl⟩ : ∃ x, x = w1 := ⟨_, rfl⟩; (have hzb : w.heap.size + 1 < wb.heap.size := lHS); (have hX := ((Ext.refl wb).alloc (.cells #[] 33)).alloc (.cells #[.int .i64 (s 0), .int .i64 (s 1), .int .i64 (s 2), .int .i64 (s 3), .int .i64 (s 4), .int .i64 (s 5)] 26)); (have HK := Lib.hid (show IK c (m + 102) w.heap.size wb.heap.size s w ((wb.alloc (.cells #[] 33)).alloc (.cells #[.int .i64 (s 0), .int .i64 (s 1), .int .i64 (s 2), .int .i64 (s 3), .int .i64 (s 4), .int .i64 (s 5)] 26)) (.slice (some ⟨wb.heap.size, 0, none⟩) 0 0) [] from ⟨cur_ext HC.out hX, HO.out.trans (hX.off _), HR.out.ext hX lHR, HS.out.ext hX lHS, by have := heap_new (wb.alloc (.cells #[] 33)) (.cells #[.int .i64 (s 0), .int .i64 (s 1), .int .i64 (s 2), .int .i64 (s 3), .int .i64 (s 4), .int .i64 (s 5)] 26); rwa [World.size_alloc] at this, own_ext (own_empty wb 33 2 wb.heap.size (Nat.le_refl _) rfl) ((Ext.refl _).alloc _), fun i k h => by simp at h⟩)); clear hX HC HO HR HS lHR lHS; (try clear hrd0 hrd1 hrd2 hrd3 hrd4 hrd5 hrf0 hrf1 hrf2 hrf3 hrf4 hrf5 hsd0 hsd1 hsd2 hsd3 hsd4 hsd5 hsf0 hsf1 hsf2 hsf3 hsf4 hsf5)))
    | (clear tk1; (go_at_call 83; refine (pick_n c (m + 102) M hM1 (by omega) (by omega) _ HK.out.cur).mono ?_; rintro e w1 ⟨q0, rfl, hq0, hc, hO⟩; replace HK := Lib.hid (HK.out.call hcp hzb hc hO); clear hc hO)))
  go_loopw [7, 8] (fun u i wr => ∃ (q : Nat) (L : List Nat), q + L.length ≤ 6 ∧ i = .int .i64 (q : Int) ∧ IK c (m + 104 + 4 * L.length) w.heap.size wb.heap.size s w wr u L) (fun _ i _ => (intOf i).toNat)
  case atStart => exact ⟨q0 + 1, [], by simp; omega, by go_num, HK.out⟩
  case round =>
    clear HK hq0
    obtain ⟨q, L, hq, rfl, hk⟩ := hrel
    obtain ⟨wo, rfl⟩ : ∃ wo : World, wo = wr := ⟨_, rfl⟩
    obtain ⟨uo, uc, rfl, -⟩ := own_shape hk.own
    have HK := Lib.hid hk
    clear hk
    by_cases hlt : 0 < q
    · have hd : decide (0 < (q : Int)) = true := decide_eq_true (by omega)
      have tk0 := Lib.hid True.intro; have tk1 := Lib.hid True.intro
      repeat' (first | (clear tk0; (go_at_call 83; refine (pick_n c (m + 104 + 4 * L.length) 6 (by omega) (by omega) (by omega) _ HK.out.cur).mono ?_; rintro e w1 ⟨x, rfl, hx, hc, hO⟩; replace HK := Lib.hid (HK.out.call hcp hzb hc hO); clear hc hO)) | (clear tk1; (go_at_call 83; refine (pick_n c (m + 104 + 4 * L.length + 2) 6 (by omega) (by omega) (by omega) _ HK.out.cur).mono ?_; rintro e w1 ⟨y, rfl, hy, hc, hO⟩; replace HK := Lib.hid (HK.out.call hcp hzb hc hO); clear hc hO; obtain ⟨wp, rfl⟩ : ∃ x, x = w1 := ⟨_, rfl⟩; have hwp : wb.heap.size ≤ wp.heap.size := Nat.le_of_lt (Nat.lt_of_succ_lt (row_lt HK.out.box)))) | (at_builtin; refine HoldT ?_) | go_skip | go_guarded | go_step | go_upon | go_values | (simp only []))
      refine StopT.mk ?_
      refine wpList_append_own _ rfl _ _ 28 rfl wb.heap.size 33 i0 (.agg #[.int .i64 0, .int .i64 0]) 2 16 Try.underlying28 hi iz0 iz1 iz2 rfl (by decide) _ _ _ rfl (own_ext HK.out.own ((Ext.refl _).alloc _)) ⟨_, 0, none⟩ 1 1 [.int .i64 (x : Int), .int .i64 (y : Int)] rfl rfl two_cells (by simp [Value.oneCell']) (by unfold maxLen; omega) (by omega) (by simp; omega) ?_
      intro v1 w2 hown hgrow _
      rw [← pxy_cell x y hx, ← pxy_append] at hown
      repeat' (first | fail | go_skip | go_guarded | go_step | go_upon | go_values | (simp only []))
      (first | exact ⟨⟨q - 1, L ++ [6 * y + x], by rw [List.length_append]; simp; omega, by go_num, (HK.out.push hcp hzb (by omega) (by omega) hgrow (by rw [List.length_append]; exact hown)).mono (by rw [List.length_append]; simp; omega)⟩, by simp [intOf]; omega⟩ | (refine ⟨?_, by simp [intOf]; omega⟩; (repeat apply Exists.intro); exact ⟨⟨q - 1, L ++ [6 * y + x], by rw [List.length_append]; simp; omega, by go_num, (HK.out.push hcp hzb (by omega) (by omega) hgrow (by rw [List.length_append]; exact hown)).mono (by rw [List.length_append]; simp; omega)⟩, rfl⟩))
    · obtain rfl : q = 0 := by omega
      have hl6 : L.length ≤ 6 := by omega
      have hzx := row_lt HK.out.box
      have HC := Lib.hid (cur_mono (k := m + 128) HK.out.cur (by omega))
      have HO := Lib.hid HK.out.off
      have HR := Lib.hid HK.out.r1
      have HS := Lib.hid HK.out.r2
      have HA := Lib.hid (arr_heap HK.out.box)
      have HOW := Lib.hid HK.out.own
      have HLM := Lib.hid HK.out.lim
      clear HK
      have lHR : w.heap.size < wo.heap.size := by omega
      have lHS : w.heap.size + 1 < wo.heap.size := by omega
      have lHA : wb.heap.size + 1 < wo.heap.size := hzx
      have nHA : ¬ (wb.heap.size + 1 = c) := by omega
      have hwo := HO.out.size
      skip
      skip; (try clear hrd0 hrd1 hrd2 hrd3 hrd4 hrd5 hrf0 hrf1 hrf2 hrf3 hrf4 hrf5); obtain ⟨⟨hrd0, hrd1, hrd2, hrd3, hrd4, hrd5⟩, hrf0, hrf1, hrf2, hrf3, hrf4, hrf5⟩ := HR.out.all; (try clear hsd0 hsd1 hsd2 hsd3 hsd4 hsd5 hsf0 hsf1 hsf2 hsf3 hsf4 hsf5); obtain ⟨⟨hsd0, hsd1, hsd2, hsd3, hsd4, hsd5⟩, hsf0, hsf1, hsf2, hsf3, hsf4, hsf5⟩ := HS.out.all; (try clear had0 had1 had2 had3 had4 had5 haf0 haf1 haf2 haf3 haf4 haf5); obtain ⟨⟨had0, had1, had2, had3, had4, had5⟩, haf0, haf1, haf2, haf3, haf4, haf5⟩ := HA.out.all
      rcases hss with hv | ⟨n, hn, rfl⟩
      · repeat' (first | (go_at_call 75; refine (l2Sheet_is _ _ hv _).mono ?_; rintro e w1 ⟨rfl, hE⟩; have hO := hE.off (fun k => k = c); replace HC := Lib.hid (cur_ext HC.out hE); replace HR := Lib.hid (Arr.off (by first | exact HR.out | exact Arr.alloc HR.out _ lHR) hO (by first | exact lHR | (simp; done) | (simp; omega)) nHR); replace lHR := Nat.lt_of_lt_of_le lHR (Nat.le_trans (by first | exact Nat.le_refl _ | (simp; done) | (simp; omega)) hO.size); (try clear hrd0 hrd1 hrd2 hrd3 hrd4 hrd5 hrf0 hrf1 hrf2 hrf3 hrf4 hrf5); obtain ⟨⟨hrd0, hrd1, hrd2, hrd3, hrd4, hrd5⟩, hrf0, hrf1, hrf2, hrf3, hrf4, hrf5⟩ := HR.out.all; replace HS := Lib.hid (Arr.off (by first | exact HS.out | exact Arr.alloc HS.out _ lHS) hO (by first | exact lHS | (simp; done) | (simp; omega)) nHS); replace lHS := Nat.lt_of_lt_of_le lHS (Nat.le_trans (by first | exact Nat.le_refl _ | (simp; done) | (simp; omega)) hO.size); (try clear hsd0 hsd1 hsd2 hsd3 hsd4 hsd5 hsf0 hsf1 hsf2 hsf3 hsf4 hsf5); obtain ⟨⟨hsd0, hsd1, hsd2, hsd3, hsd4, hsd5⟩, hsf0, hsf1, hsf2, hsf3, hsf4, hsf5⟩ := HS.out.all; replace HA := Lib.hid (Arr.off (by first | exact HA.out | exact Arr.alloc HA.out _ lHA) hO (by first | exact lHA | (simp; done) | (simp; omega)) nHA); replace lHA := Nat.lt_of_lt_of_le lHA (Nat.le_trans (by first | exact Nat.le_refl _ | (simp; done) | (simp; omega)) hO.size); (try clear had0 had1 had2 had3 had4 had5 haf0 haf1 haf2 haf3 haf4 haf5); obtain ⟨⟨had0, had1, had2, had3, had4, had5⟩, haf0, haf1, haf2, haf3, haf4, haf5⟩ := HA.out.all; replace HO := Lib.hid (HO.out.trans hO); clear hO hE) | go_skip | go_guarded | go_step | go_upon | go_values | (simp only []))
        refine wp_float (c) [(0, true), (1, true), (2, false)] [3, 4] (by kernel_rfl) (by kernel_rfl) ?_; simp only [pickO, pickT, List.getElem?_cons_succ, List.getElem?_cons_zero]; intro hgr hor; have HOR := Lib.hid hor; clear hor; replace HC := Lib.hid (cur_ext HC.out (Ext.refl _).drew); replace HO := Lib.hid (HO.out.trans ((Ext.refl _).drew.off (fun k => k = c))); replace HR := Lib.hid (HR.out.ext (Ext.refl _).drew lHR); replace HS := Lib.hid (HS.out.ext (Ext.refl _).drew lHS); replace HA := Lib.hid (HA.out.ext (Ext.refl _).drew lHA)
        (refine walkR_step (fun K hK => ?_); go_simp; (try (go_ints; try go_simp)); first | (refine hK _ ?_; clear hK K) | (apply Exists.intro; refine ⟨fun _ => ?_, hK _ ?_⟩; (fail); clear hK K) | (simp only [↓IntWalk.iteOmega]; (try go_simp); (try (go_ints; try go_simp)); first | (refine hK _ ?_; clear hK K) | (apply Exists.intro; refine ⟨fun _ => ?_, hK _ ?_⟩; (fail); clear hK K))); (refine walkR_step (fun K hK => ?_); go_simp; (try (go_ints; try go_simp)); first | (refine hK _ ?_; clear hK K) | (apply Exists.intro; refine ⟨fun _ => ?_, hK _ ?_⟩; (fail); clear hK K) | (simp only [↓IntWalk.iteOmega]; (try go_simp); (try (go_ints; try go_simp)); first | (refine hK _ ?_; clear hK K) | (apply Exists.intro; refine ⟨fun _ => ?_, hK _ ?_⟩; (fail); clear hK K)))
        refine walkR_do rfl (fun K hK => ?_); go_simp; (try (go_ints; try go_simp)); (try simp only [anyUpon]); (go_at_call 136; refine (cSheet_s c (m + 128) (by omega) _ HC.out).mono ?_; rintro e w1 ⟨r, hr, rfl, hc, hO⟩; replace HC := Lib.hid hc; clear hc; replace HR := Lib.hid (Arr.off (by first | exact HR.out | exact Arr.alloc HR.out _ lHR) hO (by first | exact lHR | (simp; done) | (simp; omega)) nHR); replace lHR := Nat.lt_of_lt_of_le lHR (Nat.le_trans (by first | exact Nat.le_refl _ | (simp; done) | (simp; omega)) hO.size); (try clear hrd0 hrd1 hrd2 hrd3 hrd4 hrd5 hrf0 hrf1 hrf2 hrf3 hrf4 hrf5); obtain ⟨⟨hrd0, hrd1, hrd2, hrd3, hrd4, hrd5⟩, hrf0, hrf1, hrf2, hrf3, hrf4, hrf5⟩ := HR.out.all; replace HS := Lib.hid (Arr.off (by first | exact HS.out | exact Arr.alloc HS.out _ lHS) hO (by first | exact lHS | (simp; done) | (simp; omega)) nHS); replace lHS := Nat.lt_of_lt_of_le lHS (Nat.le_trans (by first | exact Nat.le_refl _ | (simp; done) | (simp; omega)) hO.size); (try clear hsd0 hsd1 hsd2 hsd3 hsd4 hsd5 hsf0 hsf1 hsf2 hsf3 hsf4 hsf5); obtain ⟨⟨hsd0, hsd1, hsd2, hsd3, hsd4, hsd5⟩, hsf0, hsf1, hsf2, hsf3, hsf4, hsf5⟩ := HS.out.all; replace HA := Lib.hid (Arr.off (by first | exact HA.out | exact Arr.alloc HA.out _ lHA) hO (by first | exact lHA | (simp; done) | (simp; omega)) nHA); replace lHA := Nat.lt_of_lt_of_le lHA (Nat.le_trans (by first | exact Nat.le_refl _ | (simp; done) | (simp; omega)) hO.size); (try clear had0 had1 had2 had3 had4 had5 haf0 haf1 haf2 haf3 haf4 haf5); obtain ⟨⟨had0, had1, had2, had3, had4, had5⟩, haf0, haf1, haf2, haf3, haf4, haf5⟩ := HA.out.all; replace HO := Lib.hid (Off.trans (by first | exact HO.out | exact HO.out.trans (((Ext.refl _).alloc _).off _) | exact HO.out.trans ((((Ext.refl _).alloc _).alloc _).off _)) hO); (try replace HL := Lib.hid (fun n hn => lst_off (HL.out n hn) hO)); (try replace HM := Lib.hid (fun n hn => lst_off (HM.out n hn) hO)); replace HOR := Lib.hid (HOR.out.trans (hO.mono (fun k hk => by first | exact hk | exact .inl hk))); clear hO); (first | refine ⟨_, rfl, hK _ _ HOR.out ?_⟩ | refine hK _ _ HOR.out ?_); clear hK K
        refine walkR_nil ?_; clear hgr HOR
        repeat' (first | fail | go_skip | go_guarded | go_step | go_upon | go_values | (simp only []))
        obtain ⟨o1, o2, o3⟩ := two_out HR.out HS.out (by omega) HO.out (Nat.le_refl _) (by omega) s r
        exact bodyPost_ret (ret_cells2 rfl rfl rfl (load_sheet o1) (load_sheet o2)) rfl ⟨s, r, .inl hv, hr, rfl, cur_mono (cur_six (cur_six HC.out (by omega) s) (by omega) r) (by omega), o3⟩
      · have tk0 := Lib.hid True.intro; have tk1 := Lib.hid True.intro
        repeat' (first | (go_at_call 75; refine (l2Sheet_is _ _ (vs_rw n) _).mono ?_; rintro e w1 ⟨rfl, hE⟩; have hO := hE.off (fun k => k = c); replace HC := Lib.hid (cur_ext HC.out hE); replace HR := Lib.hid (Arr.off (by first | exact HR.out | exact Arr.alloc HR.out _ lHR) hO (by first | exact lHR | (simp; done) | (simp; omega)) nHR); replace lHR := Nat.lt_of_lt_of_le lHR (Nat.le_trans (by first | exact Nat.le_refl _ | (simp; done) | (simp; omega)) hO.size); (try clear hrd0 hrd1 hrd2 hrd3 hrd4 hrd5 hrf0 hrf1 hrf2 hrf3 hrf4 hrf5); obtain ⟨⟨hrd0, hrd1, hrd2, hrd3, hrd4, hrd5⟩, hrf0, hrf1, hrf2, hrf3, hrf4, hrf5⟩ := HR.out.all; replace HS := Lib.hid (Arr.off (by first | exact HS.out | exact Arr.alloc HS.out _ lHS) hO (by first | exact lHS | (simp; done) | (simp; omega)) nHS); replace lHS := Nat.lt_of_lt_of_le lHS (Nat.le_trans (by first | exact Nat.le_refl _ | (simp; done) | (simp; omega)) hO.size); (try clear hsd0 hsd1 hsd2 hsd3 hsd4 hsd5 hsf0 hsf1 hsf2 hsf3 hsf4 hsf5); obtain ⟨⟨hsd0, hsd1, hsd2, hsd3, hsd4, hsd5⟩, hsf0, hsf1, hsf2, hsf3, hsf4, hsf5⟩ := HS.out.all; replace HA := Lib.hid (Arr.off (by first | exact HA.out | exact Arr.alloc HA.out _ lHA) hO (by first | exact lHA | (simp; done) | (simp; omega)) nHA); replace lHA := Nat.lt_of_lt_of_le lHA (Nat.le_trans (by first | exact Nat.le_refl _ | (simp; done) | (simp; omega)) hO.size); (try clear had0 had1 had2 had3 had4 had5 haf0 haf1 haf2 haf3 haf4 haf5); obtain ⟨⟨had0, had1, had2, had3, had4, had5⟩, haf0, haf1, haf2, haf3, haf4, haf5⟩ := HA.out.all; replace HO := Lib.hid (HO.out.trans hO); replace HOW := Lib.hid (own_ext HOW.out hE); clear hO hE) | (clear tk0; ((go_at_call 163; refine (l6Ink_n n L HLM.out (by omega) _ _ _ HOW.out).mono ?_; rintro e w1 ⟨rfl, hE⟩; have hO := hE.off (fun k => k = c); replace HC := Lib.hid (cur_ext HC.out hE); replace HR := Lib.hid (Arr.off (by first | exact HR.out | exact Arr.alloc HR.out _ lHR) hO (by first | exact lHR | (simp; done) | (simp; omega)) nHR); replace lHR := Nat.lt_of_lt_of_le lHR (Nat.le_trans (by first | exact Nat.le_refl _ | (simp; done) | (simp; omega)) hO.size); (try clear hrd0 hrd1 hrd2 hrd3 hrd4 hrd5 hrf0 hrf1 hrf2 hrf3 hrf4 hrf5); obtain ⟨⟨hrd0, hrd1, hrd2, hrd3, hrd4, hrd5⟩, hrf0, hrf1, hrf2, hrf3, hrf4, hrf5⟩ := HR.out.all; replace HS := Lib.hid (Arr.off (by first | exact HS.out | exact Arr.alloc HS.out _ lHS) hO (by first | exact lHS | (simp; done) | (simp; omega)) nHS); replace lHS := Nat.lt_of_lt_of_le lHS (Nat.le_trans (by first | exact Nat.le_refl _ | (simp; done) | (simp; omega)) hO.size); (try clear hsd0 hsd1 hsd2 hsd3 hsd4 hsd5 hsf0 hsf1 hsf2 hsf3 hsf4 hsf5); obtain ⟨⟨hsd0, hsd1, hsd2, hsd3, hsd4, hsd5⟩, hsf0, hsf1, hsf2, hsf3, hsf4, hsf5⟩ := HS.out.all; replace HA := Lib.hid (Arr.off (by first | exact HA.out | exact Arr.alloc HA.out _ lHA) hO (by first | exact lHA | (simp; done) | (simp; omega)) nHA); replace lHA := Nat.lt_of_lt_of_le lHA (Nat.le_trans (by first | exact Nat.le_refl _ | (simp; done) | (simp; omega)) hO.size); (try clear had0 had1 had2 had3 had4 had5 haf0 haf1 haf2 haf3 haf4 haf5); obtain ⟨⟨had0, had1, had2, had3, had4, had5⟩, haf0, haf1, haf2, haf3, haf4, haf5⟩ := HA.out.all; replace HO := Lib.hid (HO.out.trans hO); skip; clear hO hE); clear HOW HLM; obtain ⟨wk, rfl⟩ : ∃ x, x = w1 := ⟨_, rfl⟩; (have hz := inkL_lt n L); (generalize inkL n L = z at *); (have hwk : wb.heap.size + 1 < wk.heap.size := lHA); (have hck : c < wk.heap.size := HC.out.1); (have HT := Lib.hid (Arr.new wk (rw z) 26 rfl)); (have hX := (Ext.refl wk).alloc (.cells #[.int .i64 (rw z 0), .int .i64 (rw z 1), .int .i64 (rw z 2), .int .i64 (rw z 3), .int .i64 (rw z 4), .int .i64 (rw z 5)] 26)); (replace HC := Lib.hid (cur_ext HC.out hX)); (replace HO := Lib.hid (HO.out.trans (hX.off _))); (replace HR := Lib.hid (HR.out.ext hX lHR)); (replace HS := Lib.hid (HS.out.ext hX lHS)); (replace HA := Lib.hid (HA.out.ext hX lHA)); (replace lHR := Nat.lt_of_lt_of_le lHR hX.size); (replace lHS := Nat.lt_of_lt_of_le lHS hX.size); (replace lHA := Nat.lt_of_lt_of_le lHA hX.size); (have lHT : wk.heap.size < (wk.alloc (.cells #[.int .i64 (rw z 0), .int .i64 (rw z 1), .int .i64 (rw z 2), .int .i64 (rw z 3), .int .i64 (rw z 4), .int .i64 (rw z 5)] 26)).heap.size := by simp); (have nHT : ¬ (wk.heap.size = c) := by omega); clear hX; skip; skip; (try clear hrd0 hrd1 hrd2 hrd3 hrd4 hrd5 hrf0 hrf1 hrf2 hrf3 hrf4 hrf5); obtain ⟨⟨hrd0, hrd1, hrd2, hrd3, hrd4, hrd5⟩, hrf0, hrf1, hrf2, hrf3, hrf4, hrf5⟩ := HR.out.all; (try clear hsd0 hsd1 hsd2 hsd3 hsd4 hsd5 hsf0 hsf1 hsf2 hsf3 hsf4 hsf5); obtain ⟨⟨hsd0, hsd1, hsd2, hsd3, hsd4, hsd5⟩, hsf0, hsf1, hsf2, hsf3, hsf4, hsf5⟩ := HS.out.all; (try clear had0 had1 had2 had3 had4 had5 haf0 haf1 haf2 haf3 haf4 haf5); obtain ⟨⟨had0, had1, had2, had3, had4, had5⟩, haf0, haf1, haf2, haf3, haf4, haf5⟩ := HA.out.all; (try clear htd0 htd1 htd2 htd3 htd4 htd5 htf0 htf1 htf2 htf3 htf4 htf5); obtain ⟨⟨htd0, htd1, htd2, htd3, htd4, htd5⟩, htf0, htf1, htf2, htf3, htf4, htf5⟩ := HT.out.all)) | (clear tk1; ((go_at_call 82; refine (one_n c (m + 128) 5 (by omega) (by omega) (by omega) _ HC.out).mono ?_; rintro e w1 ⟨b, rfl, hc, hO⟩; replace HC := Lib.hid hc; clear hc; replace HR := Lib.hid (Arr.off (by first | exact HR.out | exact Arr.alloc HR.out _ lHR) hO (by first | exact lHR | (simp; done) | (simp; omega)) nHR); replace lHR := Nat.lt_of_lt_of_le lHR (Nat.le_trans (by first | exact Nat.le_refl _ | (simp; done) | (simp; omega)) hO.size); (try clear hrd0 hrd1 hrd2 hrd3 hrd4 hrd5 hrf0 hrf1 hrf2 hrf3 hrf4 hrf5); obtain ⟨⟨hrd0, hrd1, hrd2, hrd3, hrd4, hrd5⟩, hrf0, hrf1, hrf2, hrf3, hrf4, hrf5⟩ := HR.out.all; replace HS := Lib.hid (Arr.off (by first | exact HS.out | exact Arr.alloc HS.out _ lHS) hO (by first | exact lHS | (simp; done) | (simp; omega)) nHS); replace lHS := Nat.lt_of_lt_of_le lHS (Nat.le_trans (by first | exact Nat.le_refl _ | (simp; done) | (simp; omega)) hO.size); (try clear hsd0 hsd1 hsd2 hsd3 hsd4 hsd5 hsf0 hsf1 hsf2 hsf3 hsf4 hsf5); obtain ⟨⟨hsd0, hsd1, hsd2, hsd3, hsd4, hsd5⟩, hsf0, hsf1, hsf2, hsf3, hsf4, hsf5⟩ := HS.out.all; replace HA := Lib.hid (Arr.off (by first | exact HA.out | exact Arr.alloc HA.out _ lHA) hO (by first | exact lHA | (simp; done) | (simp; omega)) nHA); replace lHA := Nat.lt_of_lt_of_le lHA (Nat.le_trans (by first | exact Nat.le_refl _ | (simp; done) | (simp; omega)) hO.size); (try clear had0 had1 had2 had3 had4 had5 haf0 haf1 haf2 haf3 haf4 haf5); obtain ⟨⟨had0, had1, had2, had3, had4, had5⟩, haf0, haf1, haf2, haf3, haf4, haf5⟩ := HA.out.all; replace HT := Lib.hid (Arr.off (by first | exact HT.out | exact Arr.alloc HT.out _ lHT) hO (by first | exact lHT | (simp; done) | (simp; omega)) nHT); replace lHT := Nat.lt_of_lt_of_le lHT (Nat.le_trans (by first | exact Nat.le_refl _ | (simp; done) | (simp; omega)) hO.size); (try clear htd0 htd1 htd2 htd3 htd4 htd5 htf0 htf1 htf2 htf3 htf4 htf5); obtain ⟨⟨htd0, htd1, htd2, htd3, htd4, htd5⟩, htf0, htf1, htf2, htf3, htf4, htf5⟩ := HT.out.all; replace HO := Lib.hid (Off.trans (by first | exact HO.out | exact HO.out.trans (((Ext.refl _).alloc _).off _) | exact HO.out.trans ((((Ext.refl _).alloc _).alloc _).off _)) hO); clear hO); cases b)) | go_skip | go_guarded | go_step | go_upon | go_values | (simp only []))
        · go_region
          simp only [Exit.then]; rename_i hKz; refine hKz _ _ ?_; refine wp_ret ?_
          obtain ⟨o1, o2, o3⟩ := two_out HR.out HS.out (by omega) HO.out (Nat.le_refl _) (by omega) (rw n) (rw z); exact bodyPost_ret (ret_cells2 rfl rfl rfl (load_sheet o1.drew) (load_sheet o2.drew)) rfl ⟨_, _, shy_rw hn, shy_rw hz, rfl, cur_mono (cur_ext (cur_six (cur_six HC.out (by omega) (rw n)) (by omega) (rw z)) (Ext.refl _).drew) (by omega), o3.trans ((Ext.refl _).drew.off _)⟩
        · refine wp_float (c) [(0, true), (1, true), (3, true), (2, false), (4, false), (5, false)] [6] (by kernel_rfl) (by kernel_rfl) ?_; simp only [pickO, pickT, List.getElem?_cons_succ, List.getElem?_cons_zero]; intro hgr hor; have HOR := Lib.hid hor; clear hor; replace HC := Lib.hid (cur_ext HC.out (Ext.refl _).drew); replace HO := Lib.hid (HO.out.trans ((Ext.refl _).drew.off (fun k => k = c))); replace HR := Lib.hid (HR.out.ext (Ext.refl _).drew lHR); replace HS := Lib.hid (HS.out.ext (Ext.refl _).drew lHS); replace HA := Lib.hid (HA.out.ext (Ext.refl _).drew lHA); replace HT := Lib.hid (HT.out.ext (Ext.refl _).drew lHT)
          (refine walkR_step (fun K hK => ?_); go_simp; (try (go_ints; try go_simp)); first | (refine hK _ ?_; clear hK K) | (apply Exists.intro; refine ⟨fun _ => ?_, hK _ ?_⟩; (fail); clear hK K) | (simp only [↓IntWalk.iteOmega]; (try go_simp); (try (go_ints; try go_simp)); first | (refine hK _ ?_; clear hK K) | (apply Exists.intro; refine ⟨fun _ => ?_, hK _ ?_⟩; (fail); clear hK K))); (refine walkR_step (fun K hK => ?_); go_simp; (try (go_ints; try go_simp)); first | (refine hK _ ?_; clear hK K) | (apply Exists.intro; refine ⟨fun _ => ?_, hK _ ?_⟩; (fail); clear hK K) | (simp only [↓IntWalk.iteOmega]; (try go_simp); (try (go_ints; try go_simp)); first | (refine hK _ ?_; clear hK K) | (apply Exists.intro; refine ⟨fun _ => ?_, hK _ ?_⟩; (fail); clear hK K))); (refine walkR_step (fun K hK => ?_); go_simp; (try (go_ints; try go_simp)); first | (refine hK _ ?_; clear hK K) | (apply Exists.intro; refine ⟨fun _ => ?_, hK _ ?_⟩; (fail); clear hK K) | (simp only [↓IntWalk.iteOmega]; (try go_simp); (try (go_ints; try go_simp)); first | (refine hK _ ?_; clear hK K) | (apply Exists.intro; refine ⟨fun _ => ?_, hK _ ?_⟩; (fail); clear hK K)))
          refine walkR_do rfl (fun K hK => ?_); go_simp; (try (go_ints; try go_simp)); (try simp only [anyUpon]); (go_at_call 83; refine (pick_n c (m + 128 + 2) 6 (by omega) (by omega) (by omega) _ HC.out).mono ?_; rintro e w1 ⟨x, rfl, hx, hc, hO⟩; replace HC := Lib.hid hc; clear hc; replace HR := Lib.hid (Arr.off (by first | exact HR.out | exact Arr.alloc HR.out _ lHR) hO (by first | exact lHR | (simp; done) | (simp; omega)) nHR); replace lHR := Nat.lt_of_lt_of_le lHR (Nat.le_trans (by first | exact Nat.le_refl _ | (simp; done) | (simp; omega)) hO.size); (try clear hrd0 hrd1 hrd2 hrd3 hrd4 hrd5 hrf0 hrf1 hrf2 hrf3 hrf4 hrf5); obtain ⟨⟨hrd0, hrd1, hrd2, hrd3, hrd4, hrd5⟩, hrf0, hrf1, hrf2, hrf3, hrf4, hrf5⟩ := HR.out.all; replace HS := Lib.hid (Arr.off (by first | exact HS.out | exact Arr.alloc HS.out _ lHS) hO (by first | exact lHS | (simp; done) | (simp; omega)) nHS); replace lHS := Nat.lt_of_lt_of_le lHS (Nat.le_trans (by first | exact Nat.le_refl _ | (simp; done) | (simp; omega)) hO.size); (try clear hsd0 hsd1 hsd2 hsd3 hsd4 hsd5 hsf0 hsf1 hsf2 hsf3 hsf4 hsf5); obtain ⟨⟨hsd0, hsd1, hsd2, hsd3, hsd4, hsd5⟩, hsf0, hsf1, hsf2, hsf3, hsf4, hsf5⟩ := HS.out.all; replace HA := Lib.hid (Arr.off (by first | exact HA.out | exact Arr.alloc HA.out _ lHA) hO (by first | exact lHA | (simp; done) | (simp; omega)) nHA); replace lHA := Nat.lt_of_lt_of_le lHA (Nat.le_trans (by first | exact Nat.le_refl _ | (simp; done) | (simp; omega)) hO.size); (try clear had0 had1 had2 had3 had4 had5 haf0 haf1 haf2 haf3 haf4 haf5); obtain ⟨⟨had0, had1, had2, had3, had4, had5⟩, haf0, haf1, haf2, haf3, haf4, haf5⟩ := HA.out.all; replace HT := Lib.hid (Arr.off (by first | exact HT.out | exact Arr.alloc HT.out _ lHT) hO (by first | exact lHT | (simp; done) | (simp; omega)) nHT); replace lHT := Nat.lt_of_lt_of_le lHT (Nat.le_trans (by first | exact Nat.le_refl _ | (simp; done) | (simp; omega)) hO.size); (try clear htd0 htd1 htd2 htd3 htd4 htd5 htf0 htf1 htf2 htf3 htf4 htf5); obtain ⟨⟨htd0, htd1, htd2, htd3, htd4, htd5⟩, htf0, htf1, htf2, htf3, htf4, htf5⟩ := HT.out.all; replace HO := Lib.hid (Off.trans (by first | exact HO.out | exact HO.out.trans (((Ext.refl _).alloc _).off _) | exact HO.out.trans ((((Ext.refl _).alloc _).alloc _).off _)) hO); (try replace HL := Lib.hid (fun n hn => lst_off (HL.out n hn) hO)); (try replace HM := Lib.hid (fun n hn => lst_off (HM.out n hn) hO)); replace HOR := Lib.hid (HOR.out.trans (hO.mono (fun k hk => by first | exact hk | exact .inl hk))); clear hO); (first | refine ⟨_, rfl, hK _ _ HOR.out ?_⟩ | refine hK _ _ HOR.out ?_); clear hK K
          refine walkR_do rfl (fun K hK => ?_); go_simp; (try (go_ints; try go_simp)); (try simp only [anyUpon]); (go_at_call 83; refine (pick_n c (m + 128 + 2 + 2) 6 (by omega) (by omega) (by omega) _ HC.out).mono ?_; rintro e w1 ⟨y, rfl, hy, hc, hO⟩; replace HC := Lib.hid hc; clear hc; replace HR := Lib.hid (Arr.off (by first | exact HR.out | exact Arr.alloc HR.out _ lHR) hO (by first | exact lHR | (simp; done) | (simp; omega)) nHR); replace lHR := Nat.lt_of_lt_of_le lHR (Nat.le_trans (by first | exact Nat.le_refl _ | (simp; done) | (simp; omega)) hO.size); (try clear hrd0 hrd1 hrd2 hrd3 hrd4 hrd5 hrf0 hrf1 hrf2 hrf3 hrf4 hrf5); obtain ⟨⟨hrd0, hrd1, hrd2, hrd3, hrd4, hrd5⟩, hrf0, hrf1, hrf2, hrf3, hrf4, hrf5⟩ := HR.out.all; replace HS := Lib.hid (Arr.off (by first | exact HS.out | exact Arr.alloc HS.out _ lHS) hO (by first | exact lHS | (simp; done) | (simp; omega)) nHS); replace lHS := Nat.lt_of_lt_of_le lHS (Nat.le_trans (by first | exact Nat.le_refl _ | (simp; done) | (simp; omega)) hO.size); (try clear hsd0 hsd1 hsd2 hsd3 hsd4 hsd5 hsf0 hsf1 hsf2 hsf3 hsf4 hsf5); obtain ⟨⟨hsd0, hsd1, hsd2, hsd3, hsd4, hsd5⟩, hsf0, hsf1, hsf2, hsf3, hsf4, hsf5⟩ := HS.out.all; replace HA := Lib.hid (Arr.off (by first | exact HA.out | exact Arr.alloc HA.out _ lHA) hO (by first | exact lHA | (simp; done) | (simp; omega)) nHA); replace lHA := Nat.lt_of_lt_of_le lHA (Nat.le_trans (by first | exact Nat.le_refl _ | (simp; done) | (simp; omega)) hO.size); (try clear had0 had1 had2 had3 had4 had5 haf0 haf1 haf2 haf3 haf4 haf5); obtain ⟨⟨had0, had1, had2, had3, had4, had5⟩, haf0, haf1, haf2, haf3, haf4, haf5⟩ := HA.out.all; replace HT := Lib.hid (Arr.off (by first | exact HT.out | exact Arr.alloc HT.out _ lHT) hO (by first | exact lHT | (simp; done) | (simp; omega)) nHT); replace lHT := Nat.lt_of_lt_of_le lHT (Nat.le_trans (by first | exact Nat.le_refl _ | (simp; done) | (simp; omega)) hO.size); (try clear htd0 htd1 htd2 htd3 htd4 htd5 htf0 htf1 htf2 htf3 htf4 htf5); obtain ⟨⟨htd0, htd1, htd2, htd3, htd4, htd5⟩, htf0, htf1, htf2, htf3, htf4, htf5⟩ := HT.out.all; replace HO := Lib.hid (Off.trans (by first | exact HO.out | exact HO.out.trans (((Ext.refl _).alloc _).off _) | exact HO.out.trans ((((Ext.refl _).alloc _).alloc _).off _)) hO); (try replace HL := Lib.hid (fun n hn => lst_off (HL.out n hn) hO)); (try replace HM := Lib.hid (fun n hn => lst_off (HM.out n hn) hO)); replace HOR := Lib.hid (HOR.out.trans (hO.mono (fun k hk => by first | exact hk | exact .inl hk))); clear hO); (first | refine ⟨_, rfl, hK _ _ HOR.out ?_⟩ | refine hK _ _ HOR.out ?_); clear hK K
          refine walkR_do rfl (fun K hK => ?_); go_simp; (try (go_ints; try go_simp)); (try simp only [anyUpon]); (go_at_call 153; refine (l2Flip_n z x y hx hy _).mono ?_; rintro e w1 ⟨rfl, hE⟩; have hO := hE.off (fun k => k = c); replace HC := Lib.hid (cur_ext HC.out hE); replace HR := Lib.hid (Arr.off (by first | exact HR.out | exact Arr.alloc HR.out _ lHR) hO (by first | exact lHR | (simp; done) | (simp; omega)) nHR); replace lHR := Nat.lt_of_lt_of_le lHR (Nat.le_trans (by first | exact Nat.le_refl _ | (simp; done) | (simp; omega)) hO.size); (try clear hrd0 hrd1 hrd2 hrd3 hrd4 hrd5 hrf0 hrf1 hrf2 hrf3 hrf4 hrf5); obtain ⟨⟨hrd0, hrd1, hrd2, hrd3, hrd4, hrd5⟩, hrf0, hrf1, hrf2, hrf3, hrf4, hrf5⟩ := HR.out.all; replace HS := Lib.hid (Arr.off (by first | exact HS.out | exact Arr.alloc HS.out _ lHS) hO (by first | exact lHS | (simp; done) | (simp; omega)) nHS); replace lHS := Nat.lt_of_lt_of_le lHS (Nat.le_trans (by first | exact Nat.le_refl _ | (simp; done) | (simp; omega)) hO.size); (try clear hsd0 hsd1 hsd2 hsd3 hsd4 hsd5 hsf0 hsf1 hsf2 hsf3 hsf4 hsf5); obtain ⟨⟨hsd0, hsd1, hsd2, hsd3, hsd4, hsd5⟩, hsf0, hsf1, hsf2, hsf3, hsf4, hsf5⟩ := HS.out.all; replace HA := Lib.hid (Arr.off (by first | exact HA.out | exact Arr.alloc HA.out _ lHA) hO (by first | exact lHA | (simp; done) | (simp; omega)) nHA); replace lHA := Nat.lt_of_lt_of_le lHA (Nat.le_trans (by first | exact Nat.le_refl _ | (simp; done) | (simp; omega)) hO.size); (try clear had0 had1 had2 had3 had4 had5 haf0 haf1 haf2 haf3 haf4 haf5); obtain ⟨⟨had0, had1, had2, had3, had4, had5⟩, haf0, haf1, haf2, haf3, haf4, haf5⟩ := HA.out.all; replace HT := Lib.hid (Arr.off (by first | exact HT.out | exact Arr.alloc HT.out _ lHT) hO (by first | exact lHT | (simp; done) | (simp; omega)) nHT); replace lHT := Nat.lt_of_lt_of_le lHT (Nat.le_trans (by first | exact Nat.le_refl _ | (simp; done) | (simp; omega)) hO.size); (try clear htd0 htd1 htd2 htd3 htd4 htd5 htf0 htf1 htf2 htf3 htf4 htf5); obtain ⟨⟨htd0, htd1, htd2, htd3, htd4, htd5⟩, htf0, htf1, htf2, htf3, htf4, htf5⟩ := HT.out.all; replace HO := Lib.hid (HO.out.trans hO); replace HOR := Lib.hid (HOR.out.trans (hO.mono (fun k hk => by first | exact hk | exact .inl hk))); clear hO hE); (first | refine ⟨_, rfl, hK _ _ HOR.out ?_⟩ | refine hK _ _ HOR.out ?_); clear hK K
          refine walkR_nil ?_; clear hgr HOR
          go_wp2
          have hxr := xor36 (b := 2 ^ (6 * y + x)) hz (pow36 (by omega))
          generalize z ^^^ 2 ^ (6 * y + x) = z2 at *
          (try replace HC := Lib.hid (cur_six HC.out (q := wk.heap.size) (by omega) (rw z2))); replace HO := Lib.hid (HO.out.six (q := wk.heap.size) (by omega) (rw z2)); replace HR := Lib.hid (Arr.far6 HR.out (q := wk.heap.size) (by omega) (rw z2)); replace lHR := Nat.lt_of_lt_of_eq lHR (size_six _ (wk.heap.size) (rw z2)).symm; replace HS := Lib.hid (Arr.far6 HS.out (q := wk.heap.size) (by omega) (rw z2)); replace lHS := Nat.lt_of_lt_of_eq lHS (size_six _ (wk.heap.size) (rw z2)).symm; replace HA := Lib.hid (Arr.far6 HA.out (q := wk.heap.size) (by omega) (rw z2)); replace lHA := Nat.lt_of_lt_of_eq lHA (size_six _ (wk.heap.size) (rw z2)).symm; replace HT := Lib.hid (HT.out.six (rw z2)); replace lHT := Nat.lt_of_lt_of_eq lHT (size_six _ (wk.heap.size) (rw z2)).symm; skip; (try clear hrd0 hrd1 hrd2 hrd3 hrd4 hrd5 hrf0 hrf1 hrf2 hrf3 hrf4 hrf5); obtain ⟨⟨hrd0, hrd1, hrd2, hrd3, hrd4, hrd5⟩, hrf0, hrf1, hrf2, hrf3, hrf4, hrf5⟩ := HR.out.all; (try clear hsd0 hsd1 hsd2 hsd3 hsd4 hsd5 hsf0 hsf1 hsf2 hsf3 hsf4 hsf5); obtain ⟨⟨hsd0, hsd1, hsd2, hsd3, hsd4, hsd5⟩, hsf0, hsf1, hsf2, hsf3, hsf4, hsf5⟩ := HS.out.all; (try clear had0 had1 had2 had3 had4 had5 haf0 haf1 haf2 haf3 haf4 haf5); obtain ⟨⟨had0, had1, had2, had3, had4, had5⟩, haf0, haf1, haf2, haf3, haf4, haf5⟩ := HA.out.all; (try clear htd0 htd1 htd2 htd3 htd4 htd5 htf0 htf1 htf2 htf3 htf4 htf5); obtain ⟨⟨htd0, htd1, htd2, htd3, htd4, htd5⟩, htf0, htf1, htf2, htf3, htf4, htf5⟩ := HT.out.all
          go_region
          simp only [Exit.then]; rename_i hKz; refine hKz _ _ ?_; refine wp_ret ?_
          obtain ⟨o1, o2, o3⟩ := two_out HR.out HS.out (by omega) HO.out (Nat.le_refl _) (by omega) (rw n) (rw z2); exact bodyPost_ret (ret_cells2 rfl rfl rfl (load_sheet o1.drew) (load_sheet o2.drew)) rfl ⟨_, _, shy_rw hn, shy_rw hxr, rfl, cur_mono (cur_ext (cur_six (cur_six HC.out (by omega) (rw n)) (by omega) (rw z2)) (Ext.refl _).drew) (by omega), o3.trans ((Ext.refl _).drew.off _)⟩
end Go.Proofs.Ytlifhoajamnehaa
set_option linter.unusedVariables false
set_option linter.unusedSimpArgs false
set_option maxRecDepth 100000
set_option maxHeartbeats 4000000
namespace Go.Proofs.Ytlifhoajamnehaa
open Go Go.RowKit Instr
theorem set6_ext {a w : World} (h : Ext a w) {q : Nat} (hq : a.heap.size ≤ q) (v : Nat → Int) : Ext a (set6 w q v) := Off.ext (Ext.refl a) ((h.off (fun _ => False)).six hq v) (fun _ h => h.elim)
theorem drawSpreadSheet_n (v : Value) (n : Nat) (w : World) (hv : Byt w w.heap.size v n) : Calls Try.prog 98 #[v] w fun e w' => ∃ r s : Nat → Int, Shy r ∧ Shy s ∧ e = .returned (.tuple #[(.agg #[.int .i64 (r 0), .int .i64 (r 1), .int .i64 (r 2), .int .i64 (r 3), .int .i64 (r 4), .int .i64 (r 5)]), (.agg #[.int .i64 (s 0), .int .i64 (s 1), .int .i64 (s 2), .int .i64 (s 3), .int .i64 (s 4), .int .i64 (s 5)])]) ∧ Ext w w' := by
  have HX := Lib.hid (((Ext.refl w).alloc (.cells #[.int .i64 0, .int .i64 0, .int .i64 0, .int .i64 0, .int .i64 0, .int .i64 0] 26)).alloc (.cells #[.int .i64 0, .int .i64 0, .int .i64 0, .int .i64 0, .int .i64 0, .int .i64 0] 26))
  have HV := Lib.hid (byt_mono (byt_ext hv (Nat.le_refl _) HX.out) HX.out.size)
  have HC := Lib.hid (cur_new _ v n 79 HV.out)
  have hsz : ((w.alloc (.cells #[.int .i64 0, .int .i64 0, .int .i64 0, .int .i64 0, .int .i64 0, .int .i64 0] 26)).alloc (.cells #[.int .i64 0, .int .i64 0, .int .i64 0, .int .i64 0, .int .i64 0, .int .i64 0] 26)).heap.size = w.heap.size + 1 + 1 := by simp
  rw [hsz] at HC
  have HO := Lib.hid (HX.out.off (fun k => k = w.heap.size + 1 + 1))
  have HR := Lib.hid ((Arr.new0 w 26 rfl).alloc (.cells #[.int .i64 0, .int .i64 0, .int .i64 0, .int .i64 0, .int .i64 0, .int .i64 0] 26) (by simp))
  have HS := Lib.hid (Arr.new0 (w.alloc (.cells #[.int .i64 0, .int .i64 0, .int .i64 0, .int .i64 0, .int .i64 0, .int .i64 0] 26)) 26 (b := w.heap.size + 1) (by simp))
  have lHR : w.heap.size < ((w.alloc (.cells #[.int .i64 0, .int .i64 0, .int .i64 0, .int .i64 0, .int .i64 0, .int .i64 0] 26)).alloc (.cells #[.int .i64 0, .int .i64 0, .int .i64 0, .int .i64 0, .int .i64 0, .int .i64 0] 26)).heap.size := by simp; omega
  have lHS : w.heap.size + 1 < ((w.alloc (.cells #[.int .i64 0, .int .i64 0, .int .i64 0, .int .i64 0, .int .i64 0, .int .i64 0] 26)).alloc (.cells #[.int .i64 0, .int .i64 0, .int .i64 0, .int .i64 0, .int .i64 0, .int .i64 0] 26)).heap.size := by simp
  have nHR : ¬ (w.heap.size = w.heap.size + 1 + 1) := by omega
  have nHS : ¬ (w.heap.size + 1 = w.heap.size + 1 + 1) := by omega
  obtain ⟨ao, cap, rfl, _⟩ := hv
  clear hsz HV HX
  skip
  go_enter Try.func98, Try.ntmps98
  repeat' (first | (go_at_call 145; refine (spread5_n (w.heap.size + 1 + 1) 0 (by omega) _ (by first | exact HC.out | exact cur_ext HC.out ((Ext.refl _).alloc _) | exact cur_ext HC.out (((Ext.refl _).alloc _).alloc _))).mono ?_; rintro e w1 ⟨r, s, hr, hs, rfl, hc, hO⟩; replace HC := Lib.hid hc; clear hc; replace HR := Lib.hid (Arr.off (by first | exact HR.out | exact Arr.alloc HR.out _ lHR) hO (by first | exact lHR | (simp; done) | (simp; omega)) nHR); replace lHR := Nat.lt_of_lt_of_le lHR (Nat.le_trans (by first | exact Nat.le_refl _ | (simp; done) | (simp; omega)) hO.size); (try clear hrd0 hrd1 hrd2 hrd3 hrd4 hrd5 hrf0 hrf1 hrf2 hrf3 hrf4 hrf5); obtain ⟨⟨hrd0, hrd1, hrd2, hrd3, hrd4, hrd5⟩, hrf0, hrf1, hrf2, hrf3, hrf4, hrf5⟩ := HR.out.all; replace HS := Lib.hid (Arr.off (by first | exact HS.out | exact Arr.alloc HS.out _ lHS) hO (by first | exact lHS | (simp; done) | (simp; omega)) nHS); replace lHS := Nat.lt_of_lt_of_le lHS (Nat.le_trans (by first | exact Nat.le_refl _ | (simp; done) | (simp; omega)) hO.size); (try clear hsd0 hsd1 hsd2 hsd3 hsd4 hsd5 hsf0 hsf1 hsf2 hsf3 hsf4 hsf5); obtain ⟨⟨hsd0, hsd1, hsd2, hsd3, hsd4, hsd5⟩, hsf0, hsf1, hsf2, hsf3, hsf4, hsf5⟩ := HS.out.all; replace HO := Lib.hid (Off.trans (by first | exact HO.out | exact HO.out.trans (((Ext.refl _).alloc _).off _) | exact HO.out.trans ((((Ext.refl _).alloc _).alloc _).off _)) hO); clear hO) | go_skip | go_guarded | go_step | go_upon | go_values | (simp only []))
  obtain ⟨o1, o2, o3⟩ := two_out HR.out HS.out (by omega) HO.out (Nat.le_refl _) (by omega) r s
  exact bodyPost_ret (ret_cells2 rfl rfl rfl (load_sheet o1) (load_sheet o2)) rfl ⟨r, s, hr, hs, rfl, Off.ext (Ext.refl w) o3 (fun k hk => by omega)⟩
theorem dDrawCommonTable_n (v : Value) (n : Nat) (w : World) (hv : Byt w w.heap.size v n) : Calls Try.prog 30 #[v] w fun e w' => ∃ r s : Nat → Int, Shy r ∧ Shy s ∧ e = .returned (.tuple #[(.agg #[.int .i64 (r 0), .int .i64 (r 1), .int .i64 (r 2), .int .i64 (r 3), .int .i64 (r 4), .int .i64 (r 5)]), (.agg #[.int .i64 (s 0), .int .i64 (s 1), .int .i64 (s 2), .int .i64 (s 3), .int .i64 (s 4), .int .i64 (s 5)])]) ∧ Ext w w' := by
  have HX := Lib.hid (((Ext.refl w).alloc (.cells #[.int .i64 0, .int .i64 0, .int .i64 0, .int .i64 0, .int .i64 0, .int .i64 0] 26)).alloc (.cells #[.int .i64 0, .int .i64 0, .int .i64 0, .int .i64 0, .int .i64 0, .int .i64 0] 26))
  have HV := Lib.hid (byt_mono (byt_ext hv (Nat.le_refl _) HX.out) HX.out.size)
  have HR := Lib.hid ((Arr.new0 w 26 rfl).alloc (.cells #[.int .i64 0, .int .i64 0, .int .i64 0, .int .i64 0, .int .i64 0, .int .i64 0] 26) (by simp))
  have HS := Lib.hid (Arr.new0 (w.alloc (.cells #[.int .i64 0, .int .i64 0, .int .i64 0, .int .i64 0, .int .i64 0, .int .i64 0] 26)) 26 (b := w.heap.size + 1) (by simp))
  have lHR : w.heap.size < ((w.alloc (.cells #[.int .i64 0, .int .i64 0, .int .i64 0, .int .i64 0, .int .i64 0, .int .i64 0] 26)).alloc (.cells #[.int .i64 0, .int .i64 0, .int .i64 0, .int .i64 0, .int .i64 0, .int .i64 0] 26)).heap.size := by simp; omega
  have lHS : w.heap.size + 1 < ((w.alloc (.cells #[.int .i64 0, .int .i64 0, .int .i64 0, .int .i64 0, .int .i64 0, .int .i64 0] 26)).alloc (.cells #[.int .i64 0, .int .i64 0, .int .i64 0, .int .i64 0, .int .i64 0, .int .i64 0] 26)).heap.size := by simp
  obtain ⟨ao, cap, rfl, _⟩ := hv
  go_enter Try.func30, Try.ntmps30
  repeat' (first | (go_at_call 98; refine (drawSpreadSheet_n _ n _ HV.out).mono ?_; rintro e w1 ⟨r, s, hr, hs, rfl, hE⟩; replace HR := Lib.hid (HR.out.ext hE lHR); replace HS := Lib.hid (HS.out.ext hE lHS); obtain ⟨⟨a0, a1, a2, a3, a4, a5⟩, f0, f1, f2, f3, f4, f5⟩ := HR.out.all; obtain ⟨⟨b0, b1, b2, b3, b4, b5⟩, g0, g1, g2, g3, g4, g5⟩ := HS.out.all; replace HX := Lib.hid (HX.out.trans hE); clear hE) | go_skip | go_guarded | go_step | go_upon | go_values | (simp only []))
  obtain ⟨o1, o2, o3⟩ := two_out HR.out HS.out (by omega) (HX.out.off (fun _ => False)) (Nat.le_refl _) (by omega) r s
  exact bodyPost_ret (ret_cells2 rfl rfl rfl (load_sheet o1) (load_sheet o2)) rfl ⟨r, s, hr, hs, rfl, Off.ext (Ext.refl w) o3 (fun k hk => hk.elim)⟩
end Go.Proofs.Ytlifhoajamnehaa
