/- VLst0 VLst VLst2 FSlt: contracts of functions, and lemmas, for this seat. Conditions: as each states. -/
import Derived.Test.YtlifhoajamnehaaSl03
import Derived.Test.YtlifhoajamnehaaSl04
import Derived.Test.YtlifhoajamnehaaSl05
import Derived.Test.YtlifhoajamnehaaSl14
import Derived.Test.YtlifhoajamnehaaSl12
import Derived.Test.YtlifhoajamnehaaSl13
import Derived.Test.YtlifhoajamnehaaSl15
set_option linter.unusedVariables false
set_option linter.unusedSimpArgs false
set_option maxRecDepth 100000
set_option maxHeartbeats 1000000
namespace Go.Proofs.Ytlifhoajamnehaa
open Go Go.RowKit Instr
theorem part_2 (a b : Int) (w : World) : (part 3 #[.int .i64 a, .int .i64 b] (0 * 1)).run Try.prog w = .ok (.int .i64 a) w ∧ (part 3 #[.int .i64 a, .int .i64 b] (1 * 1)).run Try.prog w = .ok (.int .i64 b) w := ⟨by kernel_rfl, by kernel_rfl⟩
theorem items2_eq (a b c d : Int) (w : World) : (Op.eqItems 9999 3 1 #[.int .i64 a, .int .i64 b] #[.int .i64 c, .int .i64 d] (List.range 2)).run Try.prog w = .ok (a == c && b == d) w := by
  rw [show List.range 2 = [0, 1] from rfl, Op.eqItems]
  simp only [Sem.run_bind, (part_2 a b w).1, (part_2 c d w).1, Result.andThen_ok]
  rw [run_equalIn_int w 9998 3 .i64 .i64 a c Try.underlying3]
  simp only [Result.andThen_ok]
  cases (a == c)
  · simp
  · simp only [Bool.not_true, Bool.false_eq_true, if_false, Bool.true_and]
    rw [Op.eqItems]
    simp only [Sem.run_bind, (part_2 a b w).2, (part_2 c d w).2, Result.andThen_ok]
    rw [run_equalIn_int w 9998 3 .i64 .i64 b d Try.underlying3]
    simp only [Result.andThen_ok]
    cases (b == d) <;> simp [Op.eqItems]
theorem eql2_is (a b c d : Int) (r : Bool) (h : (a == c && b == d) = r) : ∀ w, (binOp .eql 33 (.agg #[.int .i64 (a), .int .i64 (b)]) (.agg #[.int .i64 (c), .int .i64 (d)])).run Try.prog w = .ok (.bool r) w := fun w => by
  rw [run_eql_struct, run_equalIn_array w 9999 _ _ Try.underlying33 (i := (Try.prog.info? 3).getD default) (by kernel_rfl), show Try.prog.cellsOf 3 = 1 by kernel_rfl, items2_eq, h]
  rfl
theorem neq2_is (a b c d : Int) (r : Bool) (h : (!(a == c && b == d)) = r) : ∀ w, (binOp .neq 33 (.agg #[.int .i64 (a), .int .i64 (b)]) (.agg #[.int .i64 (c), .int .i64 (d)])).run Try.prog w = .ok (.bool r) w := fun w => by
  rw [run_neq_struct, run_equalIn_array w 9999 _ _ Try.underlying33 (i := (Try.prog.info? 3).getD default) (by kernel_rfl), show Try.prog.cellsOf 3 = 1 by kernel_rfl, items2_eq, ← h]
  rfl
end Go.Proofs.Ytlifhoajamnehaa
set_option linter.unusedVariables false
set_option linter.unusedSimpArgs false
set_option maxRecDepth 100000
set_option maxHeartbeats 1000000
namespace Go.Proofs.Ytlifhoajamnehaa
open Go Go.RowKit
theorem pl_get : ∀ (L : List Nat) (i k : Nat), L[i]? = some k → (pl L)[i * 2]? = some (.int .i64 ((k : Int) / 6)) ∧ (pl L)[i * 2 + 1]? = some (.int .i64 ((k : Int) % 6))
  | x :: L, 0, k, h => by
    obtain rfl : x = k := by simpa using h
    exact ⟨rfl, rfl⟩
  | x :: L, i + 1, k, h => by
    have := pl_get L i k (by simpa using h)
    rw [show (i + 1) * 2 = i * 2 + 1 + 1 by omega]
    exact this
open Instr
theorem vPairs_same (B C n : Nat) (g : Nat → Int) (v u : Value) (w : World) (hn : n < 2000000) (h : w.ownsRow B 33 2 v n (Gl (n * 2) g)) (k : w.ownsRow C 33 2 u n (Gl (n * 2) g)) :
    Calls Try.prog 26 #[v, u] w fun e w' => e = .returned (.bool true) ∧ Ext w w' := by
  obtain ⟨ao, cap, rfl, ha⟩ := own_shape h
  obtain ⟨bo, cup, rfl, hb⟩ := own_shape k
  by_cases h0 : n = 0
  · subst h0
    clear h k ha hb
    go_enter Try.func26, Try.ntmps26
    go_wp2
    go_loopw [5] (fun i wr => i = .int .i64 0 ∧ Ext w wr) (fun _ _ => 0)
    case atStart => exact ⟨rfl, (by (repeat' (first | (with_reducible exact Ext.refl _) | (with_reducible assumption) | (with_reducible refine Ext.alloc ?_ _) | (with_reducible refine Ext.drew ?_) | (with_reducible refine Ext.drewN ?_ _) | (with_reducible refine Ext.setCell ?_ ?_ _) | (with_reducible refine Ext.trans ?_ (by assumption)))) <;> (first | (with_reducible assumption) | omega | (simp; done) | (simp; omega)))⟩
    case round =>
      obtain ⟨rfl, hx⟩ := hrel
      go_wp2
      go_returns
      exact ⟨rfl, (by (repeat' (first | (with_reducible exact Ext.refl _) | (with_reducible assumption) | (with_reducible refine Ext.alloc ?_ _) | (with_reducible refine Ext.drew ?_) | (with_reducible refine Ext.drewN ?_ _) | (with_reducible refine Ext.setCell ?_ ?_ _) | (with_reducible refine Ext.trans ?_ (by assumption)))) <;> (first | (with_reducible assumption) | omega | (simp; done) | (simp; omega)))⟩
  · obtain ⟨a, rfl, _, ha⟩ := ha (by omega)
    obtain ⟨b, rfl, _, hb⟩ := hb (by omega)
    have H := Lib.hid h
    have K := Lib.hid k
    clear h k
    skip
    go_enter Try.func26, Try.ntmps26
    go_wp2
    go_loopw [5] (fun i wr => ∃ j : Nat, j ≤ n ∧ i = .int .i64 j ∧ Ext w wr) (fun i _ => n - (intOf i).toNat)
    case atStart => exact ⟨0, Nat.zero_le _, rfl, (by (repeat' (first | (with_reducible exact Ext.refl _) | (with_reducible assumption) | (with_reducible refine Ext.alloc ?_ _) | (with_reducible refine Ext.drew ?_) | (with_reducible refine Ext.drewN ?_ _) | (with_reducible refine Ext.setCell ?_ ?_ _) | (with_reducible refine Ext.trans ?_ (by assumption)))) <;> (first | (with_reducible assumption) | omega | (simp; done) | (simp; omega)))⟩
    case round =>
      obtain ⟨j, hj, rfl, hx⟩ := hrel
      obtain ⟨wo, rfl⟩ : ∃ wo : World, wo = wr := ⟨_, rfl⟩
      by_cases hlt : j < n
      · have hs := hx.size
        have c1 := ((own_ext H.out hx).cellAt (j * 2) (by omega)).trans (Gl_get (by omega))
        have c2 := ((own_ext H.out hx).cellAt (j * 2 + 1) (by omega)).trans (Gl_get (by omega))
        have d1 := ((own_ext K.out hx).cellAt (j * 2) (by omega)).trans (Gl_get (by omega))
        have d2 := ((own_ext K.out hx).cellAt (j * 2 + 1) (by omega)).trans (Gl_get (by omega))
        have za : a < wo.heap.size := by omega
        have zb : b < wo.heap.size := by omega
        have nq := neq2_is (g (j * 2)) (g (j * 2 + 1)) (g (j * 2)) (g (j * 2 + 1)) false (by simp)
        go_wp2
        refine wp_calm0 (by kernel_rfl) (by kernel_rfl) ?_; intro hgr; (refine walkQ_step (fun K hK => ?_); go_simp; (try (go_ints; try go_simp)); first | (refine hK _ ?_; clear hK K) | (apply Exists.intro; refine ⟨fun _ => ?_, hK _ ?_⟩; (fail); clear hK K) | (simp only [↓IntWalk.iteOmega]; (try go_simp); (try (go_ints; try go_simp)); first | (refine hK _ ?_; clear hK K) | (apply Exists.intro; refine ⟨fun _ => ?_, hK _ ?_⟩; (fail); clear hK K))); (refine walkQ_step (fun K hK => ?_); go_simp; (try (go_ints; try go_simp)); first | (refine hK _ ?_; clear hK K) | (apply Exists.intro; refine ⟨fun _ => ?_, hK _ ?_⟩; (fail); clear hK K) | (simp only [↓IntWalk.iteOmega]; (try go_simp); (try (go_ints; try go_simp)); first | (refine hK _ ?_; clear hK K) | (apply Exists.intro; refine ⟨fun _ => ?_, hK _ ?_⟩; (fail); clear hK K))); (refine walkQ_step (fun K hK => ?_); go_simp; (try (go_ints; try go_simp)); first | (refine hK _ ?_; clear hK K) | (apply Exists.intro; refine ⟨fun _ => ?_, hK _ ?_⟩; (fail); clear hK K) | (simp only [↓IntWalk.iteOmega]; (try go_simp); (try (go_ints; try go_simp)); first | (refine hK _ ?_; clear hK K) | (apply Exists.intro; refine ⟨fun _ => ?_, hK _ ?_⟩; (fail); clear hK K))); (refine walkQ_step (fun K hK => ?_); go_simp; (try (go_ints; try go_simp)); first | (refine hK _ ?_; clear hK K) | (apply Exists.intro; refine ⟨fun _ => ?_, hK _ ?_⟩; (fail); clear hK K) | (simp only [↓IntWalk.iteOmega]; (try go_simp); (try (go_ints; try go_simp)); first | (refine hK _ ?_; clear hK K) | (apply Exists.intro; refine ⟨fun _ => ?_, hK _ ?_⟩; (fail); clear hK K))); (refine walkQ_step (fun K hK => ?_); go_simp; (try (go_ints; try go_simp)); first | (refine hK _ ?_; clear hK K) | (apply Exists.intro; refine ⟨fun _ => ?_, hK _ ?_⟩; (fail); clear hK K) | (simp only [↓IntWalk.iteOmega]; (try go_simp); (try (go_ints; try go_simp)); first | (refine hK _ ?_; clear hK K) | (apply Exists.intro; refine ⟨fun _ => ?_, hK _ ?_⟩; (fail); clear hK K))); (refine walkQ_step (fun K hK => ?_); go_simp; (try (go_ints; try go_simp)); first | (refine hK _ ?_; clear hK K) | (apply Exists.intro; refine ⟨fun _ => ?_, hK _ ?_⟩; (fail); clear hK K) | (simp only [↓IntWalk.iteOmega]; (try go_simp); (try (go_ints; try go_simp)); first | (refine hK _ ?_; clear hK K) | (apply Exists.intro; refine ⟨fun _ => ?_, hK _ ?_⟩; (fail); clear hK K))); (refine walkQ_step (fun K hK => ?_); go_simp; (try (go_ints; try go_simp)); first | (refine hK _ ?_; clear hK K) | (apply Exists.intro; refine ⟨fun _ => ?_, hK _ ?_⟩; (fail); clear hK K) | (simp only [↓IntWalk.iteOmega]; (try go_simp); (try (go_ints; try go_simp)); first | (refine hK _ ?_; clear hK K) | (apply Exists.intro; refine ⟨fun _ => ?_, hK _ ?_⟩; (fail); clear hK K))); (refine walkQ_step (fun K hK => ?_); go_simp; (try (go_ints; try go_simp)); first | (refine hK _ ?_; clear hK K) | (apply Exists.intro; refine ⟨fun _ => ?_, hK _ ?_⟩; (fail); clear hK K) | (simp only [↓IntWalk.iteOmega]; (try go_simp); (try (go_ints; try go_simp)); first | (refine hK _ ?_; clear hK K) | (apply Exists.intro; refine ⟨fun _ => ?_, hK _ ?_⟩; (fail); clear hK K))); (refine walkQ_step (fun K hK => ?_); go_simp; (try (go_ints; try go_simp)); first | (refine hK _ ?_; clear hK K) | (apply Exists.intro; refine ⟨fun _ => ?_, hK _ ?_⟩; (fail); clear hK K) | (simp only [↓IntWalk.iteOmega]; (try go_simp); (try (go_ints; try go_simp)); first | (refine hK _ ?_; clear hK K) | (apply Exists.intro; refine ⟨fun _ => ?_, hK _ ?_⟩; (fail); clear hK K))); refine walkQ_nil ?_; clear hgr; intro w1 hE; have hc2 := hE.cells; have hf2 := hE.frees; have hz2 := hE.size
        replace hE : Ext wo w1 := ((Ext.refl wo).drew).trans hE
        go_wp2
        refine ⟨⟨j + 1, by omega, by go_num, (by (repeat' (first | (with_reducible exact Ext.refl _) | (with_reducible assumption) | (with_reducible refine Ext.alloc ?_ _) | (with_reducible refine Ext.drew ?_) | (with_reducible refine Ext.drewN ?_ _) | (with_reducible refine Ext.setCell ?_ ?_ _) | (with_reducible refine Ext.trans ?_ (by assumption)))) <;> (first | (with_reducible assumption) | omega | (simp; done) | (simp; omega)))⟩, by simp [intOf]; omega⟩
      · obtain rfl : j = n := by omega
        go_wp2
        go_returns
        exact ⟨rfl, (by (repeat' (first | (with_reducible exact Ext.refl _) | (with_reducible assumption) | (with_reducible refine Ext.alloc ?_ _) | (with_reducible refine Ext.drew ?_) | (with_reducible refine Ext.drewN ?_ _) | (with_reducible refine Ext.setCell ?_ ?_ _) | (with_reducible refine Ext.trans ?_ (by assumption)))) <;> (first | (with_reducible assumption) | omega | (simp; done) | (simp; omega)))⟩
theorem vPair_n (B : Nat) (L : List Nat) (hG : ∀ i k : Nat, L[i]? = some k → k < 36) (hlen : L.length < 1000) (x y : Nat) (hx6 : x < 6) (hy6 : y < 6) (c : Bool) (hc : decide (6 * x + y ∈ L) = c) (v : Value) (w : World) (h : w.ownsRow B 33 2 v L.length (pl L)) :
    Calls Try.prog 29 #[v, (.agg #[.int .i64 ((x : Int)), .int .i64 ((y : Int))])] w fun e w' => e = .returned (.bool c) ∧ Ext w w' := by
  obtain ⟨ao, cap, rfl, ha⟩ := own_shape h
  have H := Lib.hid h
  have HG := Lib.hid hG
  have HCC := Lib.hid hc
  clear h hG hc
  skip
  go_enter Try.func29, Try.ntmps29
  go_wp2
  go_loopw [5] (fun i wr => ∃ j : Nat, j ≤ L.length ∧ i = .int .i64 j ∧ Ext w wr ∧ (wr.cell? ⟨w.heap.size, 0, none⟩ = some (.int .i64 x) ∧ wr.cell? ⟨w.heap.size, 1, none⟩ = some (.int .i64 y)) ∧ w.heap.size < wr.heap.size ∧ ∀ i k : Nat, i < j → L[i]? = some k → k ≠ 6 * x + y) (fun i _ => L.length - (intOf i).toNat)
  case atStart => exact ⟨0, Nat.zero_le _, rfl, (by (repeat' (first | (with_reducible exact Ext.refl _) | (with_reducible assumption) | (with_reducible refine Ext.alloc ?_ _) | (with_reducible refine Ext.drew ?_) | (with_reducible refine Ext.drewN ?_ _) | (with_reducible refine Ext.setCell ?_ ?_ _) | (with_reducible refine Ext.trans ?_ (by assumption)))) <;> (first | (with_reducible assumption) | omega | (simp; done) | (simp; omega))), ⟨by go_simp, by go_simp⟩, by simp, fun i k hi => absurd hi (Nat.not_lt_zero _)⟩
  case round =>
    obtain ⟨j, hj, rfl, hx, ⟨q1, q2⟩, hzw, hno⟩ := hrel
    obtain ⟨wo, rfl⟩ : ∃ wo : World, wo = wr := ⟨_, rfl⟩
    have HN := Lib.hid hno
    clear hno
    by_cases hlt : j < L.length
    · obtain ⟨a, rfl, _, ha⟩ := ha (by omega)
      have hs := hx.size
      obtain ⟨k, hk⟩ : ∃ k, L[j]? = some k := ⟨L[j], List.getElem?_eq_getElem hlt⟩
      have HK := Lib.hid hk
      have hk36 := HG.out j k hk
      have c1 := ((own_ext H.out hx).cellAt (j * 2) (by omega)).trans (pl_get L j k hk).1
      have c2 := ((own_ext H.out hx).cellAt (j * 2 + 1) (by omega)).trans (pl_get L j k hk).2
      clear hk
      have za : a < wo.heap.size := by omega
      by_cases he : k = 6 * x + y
      · have eq := eql2_is ((k : Int) / 6) ((k : Int) % 6) x y true (by simp; omega)
        obtain rfl : c = true := by rw [← HCC.out]; exact decide_eq_true (he ▸ List.mem_of_getElem? HK.out)
        clear he
        go_wp2
        refine wp_calm0 (by kernel_rfl) (by kernel_rfl) ?_; intro hgr; (refine walkQ_step (fun K hK => ?_); go_simp; (try (go_ints; try go_simp)); first | (refine hK _ ?_; clear hK K) | (apply Exists.intro; refine ⟨fun _ => ?_, hK _ ?_⟩; (fail); clear hK K) | (simp only [↓IntWalk.iteOmega]; (try go_simp); (try (go_ints; try go_simp)); first | (refine hK _ ?_; clear hK K) | (apply Exists.intro; refine ⟨fun _ => ?_, hK _ ?_⟩; (fail); clear hK K))); (refine walkQ_step (fun K hK => ?_); go_simp; (try (go_ints; try go_simp)); first | (refine hK _ ?_; clear hK K) | (apply Exists.intro; refine ⟨fun _ => ?_, hK _ ?_⟩; (fail); clear hK K) | (simp only [↓IntWalk.iteOmega]; (try go_simp); (try (go_ints; try go_simp)); first | (refine hK _ ?_; clear hK K) | (apply Exists.intro; refine ⟨fun _ => ?_, hK _ ?_⟩; (fail); clear hK K))); (refine walkQ_step (fun K hK => ?_); go_simp; (try (go_ints; try go_simp)); first | (refine hK _ ?_; clear hK K) | (apply Exists.intro; refine ⟨fun _ => ?_, hK _ ?_⟩; (fail); clear hK K) | (simp only [↓IntWalk.iteOmega]; (try go_simp); (try (go_ints; try go_simp)); first | (refine hK _ ?_; clear hK K) | (apply Exists.intro; refine ⟨fun _ => ?_, hK _ ?_⟩; (fail); clear hK K))); (refine walkQ_step (fun K hK => ?_); go_simp; (try (go_ints; try go_simp)); first | (refine hK _ ?_; clear hK K) | (apply Exists.intro; refine ⟨fun _ => ?_, hK _ ?_⟩; (fail); clear hK K) | (simp only [↓IntWalk.iteOmega]; (try go_simp); (try (go_ints; try go_simp)); first | (refine hK _ ?_; clear hK K) | (apply Exists.intro; refine ⟨fun _ => ?_, hK _ ?_⟩; (fail); clear hK K))); (refine walkQ_step (fun K hK => ?_); go_simp; (try (go_ints; try go_simp)); first | (refine hK _ ?_; clear hK K) | (apply Exists.intro; refine ⟨fun _ => ?_, hK _ ?_⟩; (fail); clear hK K) | (simp only [↓IntWalk.iteOmega]; (try go_simp); (try (go_ints; try go_simp)); first | (refine hK _ ?_; clear hK K) | (apply Exists.intro; refine ⟨fun _ => ?_, hK _ ?_⟩; (fail); clear hK K))); (refine walkQ_step (fun K hK => ?_); go_simp; (try (go_ints; try go_simp)); first | (refine hK _ ?_; clear hK K) | (apply Exists.intro; refine ⟨fun _ => ?_, hK _ ?_⟩; (fail); clear hK K) | (simp only [↓IntWalk.iteOmega]; (try go_simp); (try (go_ints; try go_simp)); first | (refine hK _ ?_; clear hK K) | (apply Exists.intro; refine ⟨fun _ => ?_, hK _ ?_⟩; (fail); clear hK K))); refine walkQ_nil ?_; clear hgr; intro w1 hE; replace k0_0 : w1.cell? ⟨w.heap.size, 0, none⟩ = some (.int .i64 (↑x)) := (hE.cells _ _ (by first | exact l0 | (simp; done) | (simp; omega))).trans (by first | exact k0_0 | (go_simp; done)); replace k0_1 : w1.cell? ⟨w.heap.size, 1, none⟩ = some (.int .i64 (↑y)) := (hE.cells _ _ (by first | exact l0 | (simp; done) | (simp; omega))).trans (by first | exact k0_1 | (go_simp; done)); replace l0 : w.heap.size < w1.heap.size := Nat.lt_of_lt_of_le (by first | exact l0 | (simp; done) | (simp; omega)) hE.size
        replace hE : Ext wo w1 := ((Ext.refl wo).drew).trans hE
        go_wp2
        go_returns
        exact ⟨rfl, (by (repeat' (first | (with_reducible exact Ext.refl _) | (with_reducible assumption) | (with_reducible refine Ext.alloc ?_ _) | (with_reducible refine Ext.drew ?_) | (with_reducible refine Ext.drewN ?_ _) | (with_reducible refine Ext.setCell ?_ ?_ _) | (with_reducible refine Ext.trans ?_ (by assumption)))) <;> (first | (with_reducible assumption) | omega | (simp; done) | (simp; omega)))⟩
      · have eq := eql2_is ((k : Int) / 6) ((k : Int) % 6) x y false (by simp; omega)
        go_wp2
        refine wp_calm0 (by kernel_rfl) (by kernel_rfl) ?_; intro hgr; (refine walkQ_step (fun K hK => ?_); go_simp; (try (go_ints; try go_simp)); first | (refine hK _ ?_; clear hK K) | (apply Exists.intro; refine ⟨fun _ => ?_, hK _ ?_⟩; (fail); clear hK K) | (simp only [↓IntWalk.iteOmega]; (try go_simp); (try (go_ints; try go_simp)); first | (refine hK _ ?_; clear hK K) | (apply Exists.intro; refine ⟨fun _ => ?_, hK _ ?_⟩; (fail); clear hK K))); (refine walkQ_step (fun K hK => ?_); go_simp; (try (go_ints; try go_simp)); first | (refine hK _ ?_; clear hK K) | (apply Exists.intro; refine ⟨fun _ => ?_, hK _ ?_⟩; (fail); clear hK K) | (simp only [↓IntWalk.iteOmega]; (try go_simp); (try (go_ints; try go_simp)); first | (refine hK _ ?_; clear hK K) | (apply Exists.intro; refine ⟨fun _ => ?_, hK _ ?_⟩; (fail); clear hK K))); (refine walkQ_step (fun K hK => ?_); go_simp; (try (go_ints; try go_simp)); first | (refine hK _ ?_; clear hK K) | (apply Exists.intro; refine ⟨fun _ => ?_, hK _ ?_⟩; (fail); clear hK K) | (simp only [↓IntWalk.iteOmega]; (try go_simp); (try (go_ints; try go_simp)); first | (refine hK _ ?_; clear hK K) | (apply Exists.intro; refine ⟨fun _ => ?_, hK _ ?_⟩; (fail); clear hK K))); (refine walkQ_step (fun K hK => ?_); go_simp; (try (go_ints; try go_simp)); first | (refine hK _ ?_; clear hK K) | (apply Exists.intro; refine ⟨fun _ => ?_, hK _ ?_⟩; (fail); clear hK K) | (simp only [↓IntWalk.iteOmega]; (try go_simp); (try (go_ints; try go_simp)); first | (refine hK _ ?_; clear hK K) | (apply Exists.intro; refine ⟨fun _ => ?_, hK _ ?_⟩; (fail); clear hK K))); (refine walkQ_step (fun K hK => ?_); go_simp; (try (go_ints; try go_simp)); first | (refine hK _ ?_; clear hK K) | (apply Exists.intro; refine ⟨fun _ => ?_, hK _ ?_⟩; (fail); clear hK K) | (simp only [↓IntWalk.iteOmega]; (try go_simp); (try (go_ints; try go_simp)); first | (refine hK _ ?_; clear hK K) | (apply Exists.intro; refine ⟨fun _ => ?_, hK _ ?_⟩; (fail); clear hK K))); (refine walkQ_step (fun K hK => ?_); go_simp; (try (go_ints; try go_simp)); first | (refine hK _ ?_; clear hK K) | (apply Exists.intro; refine ⟨fun _ => ?_, hK _ ?_⟩; (fail); clear hK K) | (simp only [↓IntWalk.iteOmega]; (try go_simp); (try (go_ints; try go_simp)); first | (refine hK _ ?_; clear hK K) | (apply Exists.intro; refine ⟨fun _ => ?_, hK _ ?_⟩; (fail); clear hK K))); refine walkQ_nil ?_; clear hgr; intro w1 hE; replace k0_0 : w1.cell? ⟨w.heap.size, 0, none⟩ = some (.int .i64 (↑x)) := (hE.cells _ _ (by first | exact l0 | (simp; done) | (simp; omega))).trans (by first | exact k0_0 | (go_simp; done)); replace k0_1 : w1.cell? ⟨w.heap.size, 1, none⟩ = some (.int .i64 (↑y)) := (hE.cells _ _ (by first | exact l0 | (simp; done) | (simp; omega))).trans (by first | exact k0_1 | (go_simp; done)); replace l0 : w.heap.size < w1.heap.size := Nat.lt_of_lt_of_le (by first | exact l0 | (simp; done) | (simp; omega)) hE.size
        have hE2 : Ext wo w1 := ((Ext.refl wo).drew).trans hE
        clear hE
        go_wp2
        refine ⟨⟨j + 1, by omega, by go_num, hx.trans hE2, ⟨(hE2.cells _ _ hzw).trans q1, (hE2.cells _ _ hzw).trans q2⟩, Nat.lt_of_lt_of_le hzw hE2.size, fun i k' hi hk' => ?_⟩, by simp [intOf]; omega⟩
        rcases Nat.lt_or_ge i j with h1 | h1
        · exact HN.out i k' h1 hk'
        · obtain rfl : i = j := by omega
          rw [HK.out] at hk'
          obtain rfl := Option.some.inj hk'
          exact he
    · obtain rfl : j = L.length := by omega
      obtain rfl : c = false := by
        rw [← HCC.out]
        refine decide_eq_false fun hm => ?_
        obtain ⟨i, hi, e⟩ := List.mem_iff_getElem.1 hm
        exact HN.out i _ hi (List.getElem?_eq_getElem hi) e
      go_wp2
      go_returns
      exact ⟨rfl, hx⟩
end Go.Proofs.Ytlifhoajamnehaa
set_option linter.unusedVariables false
set_option linter.unusedSimpArgs false
set_option maxRecDepth 100000
set_option maxHeartbeats 1000000
namespace Go.Proofs.Ytlifhoajamnehaa
open Go Go.RowKit Instr
open Instr
theorem rCells_same (B C n : Nat) (g : Nat → Int) (v u : Value) (w : World) (hn : n < 2000000) (h : w.ownsRow B 33 2 v n (Gl (n * 2) g)) (k : w.ownsRow C 33 2 u n (Gl (n * 2) g)) :
    Calls Try.prog 70 #[v, u] w fun e w' => e = .returned (.bool true) ∧ Ext w w' := by
  obtain ⟨ao, cap, rfl, ha⟩ := own_shape h
  obtain ⟨bo, cup, rfl, hb⟩ := own_shape k
  by_cases h0 : n = 0
  · subst h0
    clear h k ha hb
    go_enter Try.func70, Try.ntmps70
    go_wp2
    go_loopw [5] (fun i wr => i = .int .i64 0 ∧ Ext w wr) (fun _ _ => 0)
    case atStart => exact ⟨rfl, (by (repeat' (first | (with_reducible exact Ext.refl _) | (with_reducible assumption) | (with_reducible refine Ext.alloc ?_ _) | (with_reducible refine Ext.drew ?_) | (with_reducible refine Ext.drewN ?_ _) | (with_reducible refine Ext.setCell ?_ ?_ _) | (with_reducible refine Ext.trans ?_ (by assumption)))) <;> (first | (with_reducible assumption) | omega | (simp; done) | (simp; omega)))⟩
    case round =>
      obtain ⟨rfl, hx⟩ := hrel
      go_wp2
      go_returns
      exact ⟨rfl, (by (repeat' (first | (with_reducible exact Ext.refl _) | (with_reducible assumption) | (with_reducible refine Ext.alloc ?_ _) | (with_reducible refine Ext.drew ?_) | (with_reducible refine Ext.drewN ?_ _) | (with_reducible refine Ext.setCell ?_ ?_ _) | (with_reducible refine Ext.trans ?_ (by assumption)))) <;> (first | (with_reducible assumption) | omega | (simp; done) | (simp; omega)))⟩
  · obtain ⟨a, rfl, _, ha⟩ := ha (by omega)
    obtain ⟨b, rfl, _, hb⟩ := hb (by omega)
    have H := Lib.hid h
    have K := Lib.hid k
    clear h k
    skip
    go_enter Try.func70, Try.ntmps70
    go_wp2
    go_loopw [5] (fun i wr => ∃ j : Nat, j ≤ n ∧ i = .int .i64 j ∧ Ext w wr) (fun i _ => n - (intOf i).toNat)
    case atStart => exact ⟨0, Nat.zero_le _, rfl, (by (repeat' (first | (with_reducible exact Ext.refl _) | (with_reducible assumption) | (with_reducible refine Ext.alloc ?_ _) | (with_reducible refine Ext.drew ?_) | (with_reducible refine Ext.drewN ?_ _) | (with_reducible refine Ext.setCell ?_ ?_ _) | (with_reducible refine Ext.trans ?_ (by assumption)))) <;> (first | (with_reducible assumption) | omega | (simp; done) | (simp; omega)))⟩
    case round =>
      obtain ⟨j, hj, rfl, hx⟩ := hrel
      obtain ⟨wo, rfl⟩ : ∃ wo : World, wo = wr := ⟨_, rfl⟩
      by_cases hlt : j < n
      · have hs := hx.size
        have c1 := ((own_ext H.out hx).cellAt (j * 2) (by omega)).trans (Gl_get (by omega))
        have c2 := ((own_ext H.out hx).cellAt (j * 2 + 1) (by omega)).trans (Gl_get (by omega))
        have d1 := ((own_ext K.out hx).cellAt (j * 2) (by omega)).trans (Gl_get (by omega))
        have d2 := ((own_ext K.out hx).cellAt (j * 2 + 1) (by omega)).trans (Gl_get (by omega))
        have za : a < wo.heap.size := by omega
        have zb : b < wo.heap.size := by omega
        have nq := neq2_is (g (j * 2)) (g (j * 2 + 1)) (g (j * 2)) (g (j * 2 + 1)) false (by simp)
        go_wp2
        refine wp_calm0 (by kernel_rfl) (by kernel_rfl) ?_; intro hgr; (refine walkQ_step (fun K hK => ?_); go_simp; (try (go_ints; try go_simp)); first | (refine hK _ ?_; clear hK K) | (apply Exists.intro; refine ⟨fun _ => ?_, hK _ ?_⟩; (fail); clear hK K) | (simp only [↓IntWalk.iteOmega]; (try go_simp); (try (go_ints; try go_simp)); first | (refine hK _ ?_; clear hK K) | (apply Exists.intro; refine ⟨fun _ => ?_, hK _ ?_⟩; (fail); clear hK K))); (refine walkQ_step (fun K hK => ?_); go_simp; (try (go_ints; try go_simp)); first | (refine hK _ ?_; clear hK K) | (apply Exists.intro; refine ⟨fun _ => ?_, hK _ ?_⟩; (fail); clear hK K) | (simp only [↓IntWalk.iteOmega]; (try go_simp); (try (go_ints; try go_simp)); first | (refine hK _ ?_; clear hK K) | (apply Exists.intro; refine ⟨fun _ => ?_, hK _ ?_⟩; (fail); clear hK K))); (refine walkQ_step (fun K hK => ?_); go_simp; (try (go_ints; try go_simp)); first | (refine hK _ ?_; clear hK K) | (apply Exists.intro; refine ⟨fun _ => ?_, hK _ ?_⟩; (fail); clear hK K) | (simp only [↓IntWalk.iteOmega]; (try go_simp); (try (go_ints; try go_simp)); first | (refine hK _ ?_; clear hK K) | (apply Exists.intro; refine ⟨fun _ => ?_, hK _ ?_⟩; (fail); clear hK K))); (refine walkQ_step (fun K hK => ?_); go_simp; (try (go_ints; try go_simp)); first | (refine hK _ ?_; clear hK K) | (apply Exists.intro; refine ⟨fun _ => ?_, hK _ ?_⟩; (fail); clear hK K) | (simp only [↓IntWalk.iteOmega]; (try go_simp); (try (go_ints; try go_simp)); first | (refine hK _ ?_; clear hK K) | (apply Exists.intro; refine ⟨fun _ => ?_, hK _ ?_⟩; (fail); clear hK K))); (refine walkQ_step (fun K hK => ?_); go_simp; (try (go_ints; try go_simp)); first | (refine hK _ ?_; clear hK K) | (apply Exists.intro; refine ⟨fun _ => ?_, hK _ ?_⟩; (fail); clear hK K) | (simp only [↓IntWalk.iteOmega]; (try go_simp); (try (go_ints; try go_simp)); first | (refine hK _ ?_; clear hK K) | (apply Exists.intro; refine ⟨fun _ => ?_, hK _ ?_⟩; (fail); clear hK K))); (refine walkQ_step (fun K hK => ?_); go_simp; (try (go_ints; try go_simp)); first | (refine hK _ ?_; clear hK K) | (apply Exists.intro; refine ⟨fun _ => ?_, hK _ ?_⟩; (fail); clear hK K) | (simp only [↓IntWalk.iteOmega]; (try go_simp); (try (go_ints; try go_simp)); first | (refine hK _ ?_; clear hK K) | (apply Exists.intro; refine ⟨fun _ => ?_, hK _ ?_⟩; (fail); clear hK K))); (refine walkQ_step (fun K hK => ?_); go_simp; (try (go_ints; try go_simp)); first | (refine hK _ ?_; clear hK K) | (apply Exists.intro; refine ⟨fun _ => ?_, hK _ ?_⟩; (fail); clear hK K) | (simp only [↓IntWalk.iteOmega]; (try go_simp); (try (go_ints; try go_simp)); first | (refine hK _ ?_; clear hK K) | (apply Exists.intro; refine ⟨fun _ => ?_, hK _ ?_⟩; (fail); clear hK K))); (refine walkQ_step (fun K hK => ?_); go_simp; (try (go_ints; try go_simp)); first | (refine hK _ ?_; clear hK K) | (apply Exists.intro; refine ⟨fun _ => ?_, hK _ ?_⟩; (fail); clear hK K) | (simp only [↓IntWalk.iteOmega]; (try go_simp); (try (go_ints; try go_simp)); first | (refine hK _ ?_; clear hK K) | (apply Exists.intro; refine ⟨fun _ => ?_, hK _ ?_⟩; (fail); clear hK K))); (refine walkQ_step (fun K hK => ?_); go_simp; (try (go_ints; try go_simp)); first | (refine hK _ ?_; clear hK K) | (apply Exists.intro; refine ⟨fun _ => ?_, hK _ ?_⟩; (fail); clear hK K) | (simp only [↓IntWalk.iteOmega]; (try go_simp); (try (go_ints; try go_simp)); first | (refine hK _ ?_; clear hK K) | (apply Exists.intro; refine ⟨fun _ => ?_, hK _ ?_⟩; (fail); clear hK K))); refine walkQ_nil ?_; clear hgr; intro w1 hE; have hc2 := hE.cells; have hf2 := hE.frees; have hz2 := hE.size
        replace hE : Ext wo w1 := ((Ext.refl wo).drew).trans hE
        go_wp2
        refine ⟨⟨j + 1, by omega, by go_num, (by (repeat' (first | (with_reducible exact Ext.refl _) | (with_reducible assumption) | (with_reducible refine Ext.alloc ?_ _) | (with_reducible refine Ext.drew ?_) | (with_reducible refine Ext.drewN ?_ _) | (with_reducible refine Ext.setCell ?_ ?_ _) | (with_reducible refine Ext.trans ?_ (by assumption)))) <;> (first | (with_reducible assumption) | omega | (simp; done) | (simp; omega)))⟩, by simp [intOf]; omega⟩
      · obtain rfl : j = n := by omega
        go_wp2
        go_returns
        exact ⟨rfl, (by (repeat' (first | (with_reducible exact Ext.refl _) | (with_reducible assumption) | (with_reducible refine Ext.alloc ?_ _) | (with_reducible refine Ext.drew ?_) | (with_reducible refine Ext.drewN ?_ _) | (with_reducible refine Ext.setCell ?_ ?_ _) | (with_reducible refine Ext.trans ?_ (by assumption)))) <;> (first | (with_reducible assumption) | omega | (simp; done) | (simp; omega)))⟩
open Instr
theorem vInts_same (B C n : Nat) (g : Nat → Int) (v u : Value) (w : World) (hn : n < 2000000) (h : w.ownsRow B 3 1 v n (Gl n g)) (k : w.ownsRow C 3 1 u n (Gl n g)) :
    Calls Try.prog 58 #[v, u] w fun e w' => e = .returned (.bool true) ∧ Ext w w' := by
  obtain ⟨ao, cap, rfl, ha⟩ := own_shape h
  obtain ⟨bo, cup, rfl, hb⟩ := own_shape k
  by_cases h0 : n = 0
  · subst h0
    clear h k ha hb
    go_enter Try.func58, Try.ntmps58
    go_wp2
    go_loopw [5] (fun i wr => i = .int .i64 0 ∧ Ext w wr) (fun _ _ => 0)
    case atStart => exact ⟨rfl, (by (repeat' (first | (with_reducible exact Ext.refl _) | (with_reducible assumption) | (with_reducible refine Ext.alloc ?_ _) | (with_reducible refine Ext.drew ?_) | (with_reducible refine Ext.drewN ?_ _) | (with_reducible refine Ext.setCell ?_ ?_ _) | (with_reducible refine Ext.trans ?_ (by assumption)))) <;> (first | (with_reducible assumption) | omega | (simp; done) | (simp; omega)))⟩
    case round =>
      obtain ⟨rfl, hx⟩ := hrel
      go_wp2
      go_returns
      exact ⟨rfl, (by (repeat' (first | (with_reducible exact Ext.refl _) | (with_reducible assumption) | (with_reducible refine Ext.alloc ?_ _) | (with_reducible refine Ext.drew ?_) | (with_reducible refine Ext.drewN ?_ _) | (with_reducible refine Ext.setCell ?_ ?_ _) | (with_reducible refine Ext.trans ?_ (by assumption)))) <;> (first | (with_reducible assumption) | omega | (simp; done) | (simp; omega)))⟩
  · obtain ⟨a, rfl, _, ha⟩ := ha (by omega)
    obtain ⟨b, rfl, _, hb⟩ := hb (by omega)
    have H := Lib.hid h
    have K := Lib.hid k
    clear h k
    skip
    go_enter Try.func58, Try.ntmps58
    go_wp2
    go_loopw [5] (fun i wr => ∃ j : Nat, j ≤ n ∧ i = .int .i64 j ∧ Ext w wr) (fun i _ => n - (intOf i).toNat)
    case atStart => exact ⟨0, Nat.zero_le _, rfl, (by (repeat' (first | (with_reducible exact Ext.refl _) | (with_reducible assumption) | (with_reducible refine Ext.alloc ?_ _) | (with_reducible refine Ext.drew ?_) | (with_reducible refine Ext.drewN ?_ _) | (with_reducible refine Ext.setCell ?_ ?_ _) | (with_reducible refine Ext.trans ?_ (by assumption)))) <;> (first | (with_reducible assumption) | omega | (simp; done) | (simp; omega)))⟩
    case round =>
      obtain ⟨j, hj, rfl, hx⟩ := hrel
      obtain ⟨wo, rfl⟩ : ∃ wo : World, wo = wr := ⟨_, rfl⟩
      by_cases hlt : j < n
      · have hs := hx.size
        have c1 := ((own_ext H.out hx).cellAt j (by omega)).trans (Gl_get (by omega))
        have d1 := ((own_ext K.out hx).cellAt j (by omega)).trans (Gl_get (by omega))
        have za : a < wo.heap.size := by omega
        have zb : b < wo.heap.size := by omega
        go_wp2
        refine wp_calm0 (by kernel_rfl) (by kernel_rfl) ?_; intro hgr; (refine walkQ_step (fun K hK => ?_); go_simp; (try (go_ints; try go_simp)); first | (refine hK _ ?_; clear hK K) | (apply Exists.intro; refine ⟨fun _ => ?_, hK _ ?_⟩; (fail); clear hK K) | (simp only [↓IntWalk.iteOmega]; (try go_simp); (try (go_ints; try go_simp)); first | (refine hK _ ?_; clear hK K) | (apply Exists.intro; refine ⟨fun _ => ?_, hK _ ?_⟩; (fail); clear hK K))); (refine walkQ_step (fun K hK => ?_); go_simp; (try (go_ints; try go_simp)); first | (refine hK _ ?_; clear hK K) | (apply Exists.intro; refine ⟨fun _ => ?_, hK _ ?_⟩; (fail); clear hK K) | (simp only [↓IntWalk.iteOmega]; (try go_simp); (try (go_ints; try go_simp)); first | (refine hK _ ?_; clear hK K) | (apply Exists.intro; refine ⟨fun _ => ?_, hK _ ?_⟩; (fail); clear hK K))); (refine walkQ_step (fun K hK => ?_); go_simp; (try (go_ints; try go_simp)); first | (refine hK _ ?_; clear hK K) | (apply Exists.intro; refine ⟨fun _ => ?_, hK _ ?_⟩; (fail); clear hK K) | (simp only [↓IntWalk.iteOmega]; (try go_simp); (try (go_ints; try go_simp)); first | (refine hK _ ?_; clear hK K) | (apply Exists.intro; refine ⟨fun _ => ?_, hK _ ?_⟩; (fail); clear hK K))); (refine walkQ_step (fun K hK => ?_); go_simp; (try (go_ints; try go_simp)); first | (refine hK _ ?_; clear hK K) | (apply Exists.intro; refine ⟨fun _ => ?_, hK _ ?_⟩; (fail); clear hK K) | (simp only [↓IntWalk.iteOmega]; (try go_simp); (try (go_ints; try go_simp)); first | (refine hK _ ?_; clear hK K) | (apply Exists.intro; refine ⟨fun _ => ?_, hK _ ?_⟩; (fail); clear hK K))); (refine walkQ_step (fun K hK => ?_); go_simp; (try (go_ints; try go_simp)); first | (refine hK _ ?_; clear hK K) | (apply Exists.intro; refine ⟨fun _ => ?_, hK _ ?_⟩; (fail); clear hK K) | (simp only [↓IntWalk.iteOmega]; (try go_simp); (try (go_ints; try go_simp)); first | (refine hK _ ?_; clear hK K) | (apply Exists.intro; refine ⟨fun _ => ?_, hK _ ?_⟩; (fail); clear hK K))); (refine walkQ_step (fun K hK => ?_); go_simp; (try (go_ints; try go_simp)); first | (refine hK _ ?_; clear hK K) | (apply Exists.intro; refine ⟨fun _ => ?_, hK _ ?_⟩; (fail); clear hK K) | (simp only [↓IntWalk.iteOmega]; (try go_simp); (try (go_ints; try go_simp)); first | (refine hK _ ?_; clear hK K) | (apply Exists.intro; refine ⟨fun _ => ?_, hK _ ?_⟩; (fail); clear hK K))); (refine walkQ_step (fun K hK => ?_); go_simp; (try (go_ints; try go_simp)); first | (refine hK _ ?_; clear hK K) | (apply Exists.intro; refine ⟨fun _ => ?_, hK _ ?_⟩; (fail); clear hK K) | (simp only [↓IntWalk.iteOmega]; (try go_simp); (try (go_ints; try go_simp)); first | (refine hK _ ?_; clear hK K) | (apply Exists.intro; refine ⟨fun _ => ?_, hK _ ?_⟩; (fail); clear hK K))); (refine walkQ_step (fun K hK => ?_); go_simp; (try (go_ints; try go_simp)); first | (refine hK _ ?_; clear hK K) | (apply Exists.intro; refine ⟨fun _ => ?_, hK _ ?_⟩; (fail); clear hK K) | (simp only [↓IntWalk.iteOmega]; (try go_simp); (try (go_ints; try go_simp)); first | (refine hK _ ?_; clear hK K) | (apply Exists.intro; refine ⟨fun _ => ?_, hK _ ?_⟩; (fail); clear hK K))); (refine walkQ_step (fun K hK => ?_); go_simp; (try (go_ints; try go_simp)); first | (refine hK _ ?_; clear hK K) | (apply Exists.intro; refine ⟨fun _ => ?_, hK _ ?_⟩; (fail); clear hK K) | (simp only [↓IntWalk.iteOmega]; (try go_simp); (try (go_ints; try go_simp)); first | (refine hK _ ?_; clear hK K) | (apply Exists.intro; refine ⟨fun _ => ?_, hK _ ?_⟩; (fail); clear hK K))); refine walkQ_nil ?_; clear hgr; intro w1 hE; have hc2 := hE.cells; have hf2 := hE.frees; have hz2 := hE.size
        replace hE : Ext wo w1 := ((Ext.refl wo).drew).trans hE
        go_wp2
        refine ⟨⟨j + 1, by omega, by go_num, (by (repeat' (first | (with_reducible exact Ext.refl _) | (with_reducible assumption) | (with_reducible refine Ext.alloc ?_ _) | (with_reducible refine Ext.drew ?_) | (with_reducible refine Ext.drewN ?_ _) | (with_reducible refine Ext.setCell ?_ ?_ _) | (with_reducible refine Ext.trans ?_ (by assumption)))) <;> (first | (with_reducible assumption) | omega | (simp; done) | (simp; omega)))⟩, by simp [intOf]; omega⟩
      · obtain rfl : j = n := by omega
        go_wp2
        go_returns
        exact ⟨rfl, (by (repeat' (first | (with_reducible exact Ext.refl _) | (with_reducible assumption) | (with_reducible refine Ext.alloc ?_ _) | (with_reducible refine Ext.drew ?_) | (with_reducible refine Ext.drewN ?_ _) | (with_reducible refine Ext.setCell ?_ ?_ _) | (with_reducible refine Ext.trans ?_ (by assumption)))) <;> (first | (with_reducible assumption) | omega | (simp; done) | (simp; omega)))⟩
theorem vHas_n (B n : Nat) (g : Nat → Int) (x : Int) (c : Bool) (hc : c = true ↔ ∃ j, j < n ∧ g j = x) (hn : n < 2000000) (v : Value) (w : World) (h : w.ownsRow B 3 1 v n (Gl n g)) :
    Calls Try.prog 59 #[v, .int .i64 x] w fun e w' => e = .returned (.bool c) ∧ Ext w w' := by
  obtain ⟨ao, cap, rfl, ha⟩ := own_shape h
  have H := Lib.hid h
  have HC := Lib.hid hc
  clear h hc
  skip
  go_enter Try.func59, Try.ntmps59
  go_wp2
  go_loopw [5] (fun i wr => ∃ j : Nat, j ≤ n ∧ i = .int .i64 j ∧ wr = w ∧ ∀ i : Nat, i < j → g i ≠ x) (fun i _ => n - (intOf i).toNat)
  case atStart => exact ⟨0, Nat.zero_le _, rfl, rfl, fun i hi => absurd hi (Nat.not_lt_zero _)⟩
  case round =>
    obtain ⟨j, hj, rfl, rfl, hno⟩ := hrel
    have HN := Lib.hid hno
    clear hno
    by_cases hlt : j < n
    · obtain ⟨a, rfl, _, ha⟩ := ha (by omega)
      have c1 := (H.out.cellAt j (by omega)).trans (Gl_get (by omega))
      obtain ⟨y, hy⟩ : ∃ y, y = g j := ⟨_, rfl⟩
      rw [← hy] at c1
      have HY := Lib.hid hy
      clear hy
      by_cases he : y = x
      · obtain rfl : c = true := HC.out.2 ⟨j, hlt, by rw [← HY.out, he]⟩
        subst he
        go_wp2
        go_returns
        exact ⟨rfl, (by (repeat' (first | (with_reducible exact Ext.refl _) | (with_reducible assumption) | (with_reducible refine Ext.alloc ?_ _) | (with_reducible refine Ext.drew ?_) | (with_reducible refine Ext.drewN ?_ _) | (with_reducible refine Ext.setCell ?_ ?_ _) | (with_reducible refine Ext.trans ?_ (by assumption)))) <;> (first | (with_reducible assumption) | omega | (simp; done) | (simp; omega)))⟩
      · have hb : (y == x) = false := by simpa using he
        go_wp2
        refine ⟨⟨j + 1, by omega, by go_num, by trivial, fun i hi => ?_⟩, by simp [intOf]; omega⟩
        rcases Nat.lt_or_ge i j with h1 | h1
        · exact HN.out i h1
        · obtain rfl : i = j := by omega
          rw [← HY.out]; exact he
    · obtain rfl : j = n := by omega
      obtain rfl : c = false := by
        cases c
        · rfl
        · obtain ⟨i, hi, e⟩ := HC.out.1 rfl
          exact absurd e (HN.out i hi)
      go_wp2
      go_returns
      exact ⟨rfl, (by (repeat' (first | (with_reducible exact Ext.refl _) | (with_reducible assumption) | (with_reducible refine Ext.alloc ?_ _) | (with_reducible refine Ext.drew ?_) | (with_reducible refine Ext.drewN ?_ _) | (with_reducible refine Ext.setCell ?_ ?_ _) | (with_reducible refine Ext.trans ?_ (by assumption)))) <;> (first | (with_reducible assumption) | omega | (simp; done) | (simp; omega)))⟩
end Go.Proofs.Ytlifhoajamnehaa
set_option linter.unusedVariables false
set_option linter.unusedSimpArgs false
set_option maxRecDepth 100000
set_option maxHeartbeats 4000000
namespace Go.Proofs.Ytlifhoajamnehaa
open Go Go.RowKit Instr
/-- a call that hands back a slice of its own and an answer -/
def ClS (f : FuncId) (args : Array Value) (T : TypeId) (sz : Nat) (k : Nat) (xs : List Value) (b : Bool) : Prop := ∀ w, Calls Try.prog f args w fun e w' => ∃ v, e = .returned (.tuple #[v, .bool b]) ∧ Ext w w' ∧ w'.ownsRow w.heap.size T sz v k xs
theorem mem_fl (p : Nat → Bool) (m k : Nat) : k ∈ fl p m ↔ k < m ∧ p k = true := by
  unfold fl
  rw [List.mem_filter, List.mem_range]
theorem slF1 (s : Nat → Int) (hs : Shy s) : ∃ (L P : List Nat) (ok : Bool),
    ClS 47 #[(.agg #[.int .i64 (s 0), .int .i64 (s 1), .int .i64 (s 2), .int .i64 (s 3), .int .i64 (s 4), .int .i64 (s 5)])] 3 1 L.length (ints L) ok ∧ ClS 48 #[(.agg #[.int .i64 (s 0), .int .i64 (s 1), .int .i64 (s 2), .int .i64 (s 3), .int .i64 (s 4), .int .i64 (s 5)])] 3 1 L.length (ints L) ok ∧ L.length ≤ 6 ∧
    (ok = false ∨ (ok = true ∧ ClS 10 #[(.agg #[.int .i64 (s 0), .int .i64 (s 1), .int .i64 (s 2), .int .i64 (s 3), .int .i64 (s 4), .int .i64 (s 5)])] 33 2 P.length (pl P) true ∧ P.length ≤ 36 ∧ (∀ i k : Nat, P[i]? = some k → k < 36) ∧ ∀ n : Nat, n < 6 → decide (n ∈ L) = decide (6 * n + 1 ∈ P))) := by
  rcases hs with h | ⟨n, hn, rfl⟩
  · exact ⟨[], [], false, fun w => SlantsOf_bad s h w, fun w => sSlantsOf_bad s h w, by simp, .inl rfl⟩
  · refine ⟨fl (sl n) 6, fl (toP n n) 36, true, fun w => SlantsOf_ok n hn w, fun w => sSlantsOf_ok n hn w, fl_le _ _, .inr ⟨rfl, fun w => PeriodsOf_ok n hn w, fl_le _ _, fun i k h => fl_lt h, fun m hm => ?_⟩⟩
    rw [decide_eq_decide, mem_fl, mem_fl]
    unfold sl toP
    rw [show (6 * m + 1) / 6 = m by omega, show (6 * m + 1) % 6 = 1 by omega]
    constructor
    · exact fun h => ⟨by omega, h.2⟩
    · exact fun h => ⟨hm, h.2⟩
theorem slN_set (r d : Nat) (hr : r < 64) (hd : d < 6) : ∃ N, N < 68719476736 ∧ (∀ k, k < 6 → slN r d k = rw N k) ∧ sl N d = true ∧ rw N 0 = (r : Int) := by
  have hrow : ∀ k : Nat, rowN (sh r (m6 ((k : Int) * (d : Int))) 0) 0 < 64 := fun k => rowN_lt _ _
  have hN : pkN (fun k => rowN (sh r (m6 ((k : Int) * (d : Int))) 0) 0) 6 < 68719476736 := pkN_lt _ hrow 6
  have hR : ∀ y, y < 6 → rowN (pkN (fun k => rowN (sh r (m6 ((k : Int) * (d : Int))) 0) 0) 6) y = rowN (sh r (m6 ((y : Int) * (d : Int))) 0) 0 := fun y hy => rowN_pkN _ hrow y hy
  refine ⟨_, hN, fun k hk => ?_, ?_, ?_⟩
  · unfold slN
    rw [rw_nat, rw_nat, hR k hk]
  · generalize pkN (fun k => rowN (sh r (m6 ((k : Int) * (d : Int))) 0) 0) 6 = N at *
    cases h : sl N d
    · obtain ⟨m, hm, _, h2⟩ := sl_false hN hd h
      refine absurd ?_ h2
      rw [rw_nat, rw_nat, hR _ (Nat.mod_lt _ (by decide)), hR m hm]
      refine congrArg _ (row_ext (rowN_lt _ _) (rowN_lt _ _) fun x hx => ?_)
      have e1 : m6 ((((m + 1) % 6 : Nat) : Int) * (d : Int)) = (m6 ((m : Int) * (d : Int)) + d) % 6 := by
        have h6 : m = 0 ∨ m = 1 ∨ m = 2 ∨ m = 3 ∨ m = 4 ∨ m = 5 := by omega
        unfold m6
        rcases h6 with rfl | rfl | rfl | rfl | rfl | rfl <;> simp <;> omega
      have ha : m6 ((m : Int) * (d : Int)) < 6 := by unfold m6; omega
      rw [e1]
      generalize m6 ((m : Int) * (d : Int)) = a at *
      rw [testBit_rowN, testBit_rowN, decide_eq_true hx, Bool.true_and, Bool.true_and, Nat.mul_zero, Nat.zero_add]
      rw [testBit_sh _ _ _ _ (by omega), testBit_sh _ _ _ _ (by omega)]
      have hs1 : src d 0 x < 6 := by unfold src; omega
      rw [testBit_rowN, decide_eq_true hs1, Bool.true_and, Nat.mul_zero, Nat.zero_add, testBit_sh _ _ _ _ (by omega)]
      refine congrArg r.testBit ?_
      unfold src
      omega
    · rfl
  · have h0 := hR 0 (by decide)
    rw [rw_nat, h0]
    have e0 : m6 (((0 : Nat) : Int) * (d : Int)) = 0 := by simp [m6]
    rw [e0, sh_zero (by omega)]
    refine congrArg _ (row_ext (rowN_lt _ _) hr fun x hx => ?_)
    rw [testBit_rowN, decide_eq_true hx, Bool.true_and, Nat.mul_zero, Nat.zero_add]
theorem slF2 (x y : Int) : ∃ (M : Nat → Int) (L : List Nat) (fine : Bool),
    Cl 50 #[.int .i64 x, .int .i64 y] (.tuple #[(.agg #[.int .i64 (M 0), .int .i64 (M 1), .int .i64 (M 2), .int .i64 (M 3), .int .i64 (M 4), .int .i64 (M 5)]), .bool fine]) ∧ Cl 51 #[.int .i64 x, .int .i64 y] (.tuple #[(.agg #[.int .i64 (M 0), .int .i64 (M 1), .int .i64 (M 2), .int .i64 (M 3), .int .i64 (M 4), .int .i64 (M 5)]), .bool fine]) ∧
    (fine = false ∨ (fine = true ∧ ClS 47 #[(.agg #[.int .i64 (M 0), .int .i64 (M 1), .int .i64 (M 2), .int .i64 (M 3), .int .i64 (M 4), .int .i64 (M 5)])] 3 1 L.length (ints L) true ∧ L.length ≤ 6 ∧ (∃ d : Nat, y = (d : Int) ∧ d ∈ L) ∧ M 0 = x)) := by
  cases h : (inR x 0 63 && inR y 0 5)
  · exact ⟨fun _ => 0, [], false, fun w => SlantSheet_bad x y h w, fun w => sSlantSheet_bad x y h w, .inl rfl⟩
  · rw [Bool.and_eq_true] at h
    obtain ⟨x0, x1⟩ := (inR_iff _ _ _).1 h.1
    obtain ⟨y0, y1⟩ := (inR_iff _ _ _).1 h.2
    obtain ⟨r, rfl⟩ : ∃ r : Nat, x = (r : Int) := ⟨x.toNat, by omega⟩
    obtain ⟨d, rfl⟩ : ∃ d : Nat, y = (d : Int) := ⟨y.toNat, by omega⟩
    obtain ⟨N, hN, e, hsl, h0⟩ := slN_set r d (by omega) (by omega)
    have eS : ((.agg #[.int .i64 (slN r d 0), .int .i64 (slN r d 1), .int .i64 (slN r d 2), .int .i64 (slN r d 3), .int .i64 (slN r d 4), .int .i64 (slN r d 5)]) : Value) = (.agg #[.int .i64 (rw N 0), .int .i64 (rw N 1), .int .i64 (rw N 2), .int .i64 (rw N 3), .int .i64 (rw N 4), .int .i64 (rw N 5)]) := by rw [e 0 (by omega), e 1 (by omega), e 2 (by omega), e 3 (by omega), e 4 (by omega), e 5 (by omega)]
    refine ⟨rw N, fl (sl N) 6, true, fun w => ?_, fun w => ?_, .inr ⟨rfl, fun w => SlantsOf_ok N hN w, fl_le _ _, ⟨d, rfl, (mem_fl _ _ _).2 ⟨by omega, hsl⟩⟩, h0⟩⟩
    · rw [← eS]; exact SlantSheet_ok r d (by omega) (by omega) w
    · rw [← eS]; exact sSlantSheet_ok r d (by omega) (by omega) w
theorem mtI_at (n k : Nat) (hk : k < 36) : mtI n 36 k = ((cnt (n &&& tsh n k) : Nat) : Int) := by unfold mtI mt tsh; rw [if_pos hk]
/-- the sum of the first numbers of a table -/
def sT36 (g : Nat → Int) : Nat → Int
  | 0 => 0
  | k + 1 => sT36 g k + g k
theorem sT36_sum (g : Nat → Nat) : ∀ k, sT36 (fun i => (g i : Int)) k = (((List.range k).map g).sum : Nat)
  | 0 => rfl
  | k + 1 => by
    rw [sT36, sT36_sum g k, List.range_succ, List.map_append, List.sum_append]
    simp
theorem sT36_congr {g h : Nat → Int} : ∀ k, (∀ i, i < k → g i = h i) → sT36 g k = sT36 h k
  | 0, _ => rfl
  | k + 1, e => by rw [sT36, sT36, sT36_congr k fun i hi => e i (by omega), e k (by omega)]
theorem slF3 (u : Nat → Int) (hu : Shy u) : ∃ (g : Nat → Int) (P : List Nat) (sz : Nat) (there : Bool),
    Cl 53 #[(.agg #[.int .i64 (u 0), .int .i64 (u 1), .int .i64 (u 2), .int .i64 (u 3), .int .i64 (u 4), .int .i64 (u 5)])] (.tuple #[.agg (av 36 g), .bool there]) ∧ Cl 54 #[(.agg #[.int .i64 (u 0), .int .i64 (u 1), .int .i64 (u 2), .int .i64 (u 3), .int .i64 (u 4), .int .i64 (u 5)])] (.tuple #[.agg (av 36 g), .bool there]) ∧
    (there = false ∨ (there = true ∧ Cl 44 #[(.agg #[.int .i64 (u 0), .int .i64 (u 1), .int .i64 (u 2), .int .i64 (u 3), .int .i64 (u 4), .int .i64 (u 5)])] (.tuple #[.int .i64 (sz : Nat), .bool true]) ∧ ClS 10 #[(.agg #[.int .i64 (u 0), .int .i64 (u 1), .int .i64 (u 2), .int .i64 (u 3), .int .i64 (u 4), .int .i64 (u 5)])] 33 2 P.length (pl P) true ∧ P.length ≤ 36 ∧ (∀ i k : Nat, P[i]? = some k → k < 36) ∧ sz ≤ 36 ∧
      (∀ k, k < 36 → 0 ≤ g k ∧ g k ≤ 36) ∧ (∀ x y : Nat, x < 6 → y < 6 → g (x * 6 + y) = g ((6 - x) % 6 * 6 + (6 - y) % 6)) ∧ (∀ x y : Nat, x < 6 → y < 6 → decide (6 * x + y ∈ P) = (g (x * 6 + y) == (sz : Int))) ∧ sT36 g 36 = (sz : Int) * (sz : Int))) := by
  rcases hu with h | ⟨n, hn, rfl⟩
  · exact ⟨fun _ => 0, [], 0, false, fun w => MeetingsOf_bad u h w, fun w => sMeetingsOf_bad u h w, .inl rfl⟩
  · refine ⟨mtI n 36, fl (toP n n) 36, cnt n, true, fun w => MeetingsOf_ok n hn w, fun w => sMeetingsOf_ok n w, .inr ⟨rfl, fun w => SizeOf_ok n hn w, fun w => PeriodsOf_ok n hn w, fl_le _ _, fun i k h => fl_lt h, cnt_le n, fun k hk => ?_, fun x y hx hy => ?_, fun x y hx hy => ?_, ?_⟩⟩
    · rw [mtI_at n k hk]
      have := cnt_le (n &&& tsh n k)
      omega
    · rw [mtI_at n _ (by omega), mtI_at n _ (by omega), meet_neg hn _ (by omega)]
      unfold pneg
      rw [show (x * 6 + y) / 6 = x by omega, show (x * 6 + y) % 6 = y by omega, Nat.mul_comm]
    · rw [mtI_at n _ (by omega)]
      have hm := meet_full hn (x * 6 + y) (by omega)
      rw [Bool.eq_iff_iff, decide_eq_true_eq, mem_fl]
      unfold toP
      rw [decide_eq_true_eq, show (6 * x + y) / 6 = (x * 6 + y) / 6 by omega, show (6 * x + y) % 6 = (x * 6 + y) % 6 by omega]
      have : (tsh n (x * 6 + y) = n) = (sh n ((x * 6 + y) / 6) ((x * 6 + y) % 6) = n) := rfl
      rw [← this, ← hm]
      simp
      omega
    · rw [sT36_congr (h := fun i => ((cnt (n &&& tsh n i) : Nat) : Int)) 36 fun i hi => mtI_at n i hi, sT36_sum, sum_meet]
      exact Int.natCast_mul _ _
theorem slF4 (a b : Nat → Int) (ha : Shy a) (hb : Shy b) : ∃ (X Y : Nat → Int) (al one : Bool),
    Cl 56 #[(.agg #[.int .i64 (a 0), .int .i64 (a 1), .int .i64 (a 2), .int .i64 (a 3), .int .i64 (a 4), .int .i64 (a 5)]), (.agg #[.int .i64 (b 0), .int .i64 (b 1), .int .i64 (b 2), .int .i64 (b 3), .int .i64 (b 4), .int .i64 (b 5)])] (.tuple #[.bool al, .bool one]) ∧ Cl 57 #[(.agg #[.int .i64 (a 0), .int .i64 (a 1), .int .i64 (a 2), .int .i64 (a 3), .int .i64 (a 4), .int .i64 (a 5)]), (.agg #[.int .i64 (b 0), .int .i64 (b 1), .int .i64 (b 2), .int .i64 (b 3), .int .i64 (b 4), .int .i64 (b 5)])] (.tuple #[.bool al, .bool one]) ∧
    (one = false ∨ (one = true ∧ Cl 27 #[(.agg #[.int .i64 (a 0), .int .i64 (a 1), .int .i64 (a 2), .int .i64 (a 3), .int .i64 (a 4), .int .i64 (a 5)])] (.tuple #[(.agg #[.int .i64 (X 0), .int .i64 (X 1), .int .i64 (X 2), .int .i64 (X 3), .int .i64 (X 4), .int .i64 (X 5)]), .bool true]) ∧ Cl 27 #[(.agg #[.int .i64 (b 0), .int .i64 (b 1), .int .i64 (b 2), .int .i64 (b 3), .int .i64 (b 4), .int .i64 (b 5)])] (.tuple #[(.agg #[.int .i64 (Y 0), .int .i64 (Y 1), .int .i64 (Y 2), .int .i64 (Y 3), .int .i64 (Y 4), .int .i64 (Y 5)]), .bool true]) ∧ (eqS X Y = true → al = true))) := by
  cases h : (vs a && vs b)
  · exact ⟨fun _ => 0, fun _ => 0, false, false, fun w => MeetAlike_bad _ _ h w, fun w => sMeetAlike_bad _ _ h w, .inl rfl⟩
  · rcases hb with h2 | ⟨m, hm, rfl⟩
    · rw [vs2_r h2] at h; cases h
    · rcases ha with h1 | ⟨n, hn, rfl⟩
      · rw [vs2_l h1] at h; cases h
      · refine ⟨rw (fpN n), rw (fpN m), _, true, fun w => MeetAlike_ok n m hn hm w, fun w => sMeetAlike_ok n m w, .inr ⟨rfl, fun w => FirstPlace_ok n hn w, fun w => FirstPlace_ok m hm w, fun he => ?_⟩⟩
        have he2 : fpN n = fpN m := by
          by_cases hh : fpN n = fpN m
          · exact hh
          · rw [eqS_rw fpN_lt fpN_lt, decide_eq_false hh] at he; cases he
        obtain ⟨k, hk, rfl⟩ := (fpN_iff hn hm).1 he2
        unfold eq36
        rw [List.all_eq_true]
        intro i hi
        rw [List.all_eq_true]
        intro j hj
        have hi6 := List.mem_range.1 hi
        have hj6 := List.mem_range.1 hj
        unfold row6
        rw [mtI_at _ _ (by omega), mtI_at _ _ (by omega), meet_shift k _ hk (by omega)]
        simp
end Go.Proofs.Ytlifhoajamnehaa
