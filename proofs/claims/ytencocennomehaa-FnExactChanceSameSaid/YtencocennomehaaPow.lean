/- Pow: contracts of functions, and lemmas, for this seat. Conditions: as each states. -/
import Derived.Test.YtencocennomehaaFrac
set_option linter.unusedVariables false
set_option maxRecDepth 100000
set_option maxHeartbeats 1000000
namespace Go.Proofs.Ytencocennomehaa
open Go Go.RowKit
theorem pow_bd {x k : Nat} (hx : x ≤ 36) (hk : k ≤ 6) : x ^ k ≤ 2176782336 := by
  have h1 : x ^ k ≤ 36 ^ k := Nat.pow_le_pow_left hx k
  have h2 : 36 ^ k ≤ 36 ^ 6 := Nat.pow_le_pow_right (by omega) hk
  have h3 : (36 : Nat) ^ 6 = 2176782336 := by decide
  omega
theorem mul_bd2 {c P : Nat} (hc : c ≤ 36) (hP : P ≤ 2176782336) : 0 ≤ (c : Int) * (P : Int) ∧ (c : Int) * (P : Int) ≤ 78364164096 := by
  have := Nat.mul_le_mul hc hP
  rw [← Int.natCast_mul]
  omega
theorem mul_bd3 {c P : Nat} (hc : c ≤ 36) (hP : P ≤ 2176782336) : 0 ≤ (P : Int) * (c : Int) ∧ (P : Int) * (c : Int) ≤ 78364164096 := by
  rw [Int.mul_comm]; exact mul_bd2 hc hP
theorem ret3_bool' {a b : Bool} {u v : Value} (h : a = b) : Ending.returned (.tuple #[u, v, .bool a]) = .returned (.tuple #[u, v, .bool b]) := by rw [h]
/-- in how many ways so many presses hit a cell an even, an odd number of times -/
def eo (h : Nat) : Nat → Nat × Nat
  | 0 => (1, 0)
  | k + 1 => ((eo h k).1 * (36 - h) + (eo h k).2 * h, (eo h k).2 * (36 - h) + (eo h k).1 * h)
theorem eo_sum {h : Nat} (hh : h ≤ 36) : ∀ k, (eo h k).1 + (eo h k).2 = 36 ^ k
  | 0 => rfl
  | k + 1 => by
    have ih := eo_sum hh k
    show (eo h k).1 * (36 - h) + (eo h k).2 * h + ((eo h k).2 * (36 - h) + (eo h k).1 * h) = _
    rw [Nat.pow_succ, ← ih]
    obtain ⟨e, he⟩ : ∃ e, 36 - h = e := ⟨_, rfl⟩
    rw [he, show (36 : Nat) = e + h by omega, Nat.mul_add, Nat.add_mul, Nat.add_mul]
    omega
theorem eo_le {h k : Nat} (hh : h ≤ 36) (hk : k ≤ 6) : (eo h k).1 ≤ 2176782336 ∧ (eo h k).2 ≤ 2176782336 := by
  have h1 := eo_sum hh k
  have h2 := pow_bd (x := 36) (Nat.le_refl _) hk
  omega
theorem sub36 {c : Nat} (hc : c ≤ 36) : ∃ e : Nat, (36 : Int) - (c : Int) = (e : Int) ∧ e = 36 - c ∧ e ≤ 36 := ⟨36 - c, by omega, rfl, by omega⟩
theorem power_n (x k : Nat) (hx : x ≤ 36) (hk : k ≤ 6) (w : World) : Calls Try.prog 106 #[.int .i64 (x : Int), .int .i64 (k : Int)] w fun e w' => e = .returned (.int .i64 (x ^ k : Nat)) ∧ w = w' := by
  go_enter Try.func106, Try.ntmps106
  go_wp2
  go_loop [5, 7] (fun o i => ∃ j P : Nat, j ≤ k ∧ P = x ^ j ∧ i = .int .i64 (j : Int) ∧ o = .int .i64 (P : Int)) (fun _ i => k - (intOf i).toNat)
  case atStart => exact ⟨0, 1, Nat.zero_le _, rfl, rfl, rfl⟩
  case round =>
    obtain ⟨j, P, hj, hP, rfl, rfl⟩ := hrel
    have b := pow_bd hx (show j ≤ 6 by omega)
    rw [← hP] at b
    have HP := Lib.hid hP
    obtain ⟨m0, m1⟩ := mul_bd3 hx b
    clear hP
    by_cases hlt : j < k
    · go_wp2
      (first | exact ⟨⟨j + 1, P * x, by omega, by rw [HP.out, Nat.pow_succ], by go_num, by go_num⟩, by simp [intOf]; omega⟩ | (refine ⟨?_, by simp [intOf]; omega⟩; (repeat apply Exists.intro); exact ⟨⟨j + 1, P * x, by omega, by rw [HP.out, Nat.pow_succ], by go_num, by go_num⟩, rfl⟩))
    · obtain rfl : j = k := by omega
      go_wp2
      go_returns
      exact ⟨ret_int (by simp [HP.out]), rfl⟩
theorem power_36 (k : Nat) (hk : k ≤ 6) (w : World) : Calls Try.prog 106 #[.int .i64 36, .int .i64 (k : Int)] w fun e w' => e = .returned (.int .i64 (36 ^ k : Nat)) ∧ w = w' := power_n 36 k (Nat.le_refl _) hk w
theorem l9Power_n (x k : Nat) (hx : x ≤ 36) (hk : k ≤ 6) (w : World) : Calls Try.prog 101 #[.int .i64 (x : Int), .int .i64 (k : Int)] w fun e w' => e = .returned (.int .i64 (x ^ k : Nat)) ∧ w = w' := by
  go_enter Try.func101, Try.ntmps101
  go_wp2
  go_loop [5, 6] (fun o i => ∃ j P : Nat, j ≤ k ∧ P = x ^ j ∧ i = .int .i64 (j : Int) ∧ o = .int .i64 (P : Int)) (fun _ i => k - (intOf i).toNat)
  case atStart => exact ⟨0, 1, Nat.zero_le _, rfl, rfl, rfl⟩
  case round =>
    obtain ⟨j, P, hj, hP, rfl, rfl⟩ := hrel
    have b := pow_bd hx (show j ≤ 6 by omega)
    rw [← hP] at b
    have HP := Lib.hid hP
    obtain ⟨m0, m1⟩ := mul_bd3 hx b
    clear hP
    by_cases hlt : j < k
    · go_wp2
      (first | exact ⟨⟨j + 1, P * x, by omega, by rw [HP.out, Nat.pow_succ], by go_num, by go_num⟩, by simp [intOf]; omega⟩ | (refine ⟨?_, by simp [intOf]; omega⟩; (repeat apply Exists.intro); exact ⟨⟨j + 1, P * x, by omega, by rw [HP.out, Nat.pow_succ], by go_num, by go_num⟩, rfl⟩))
    · obtain rfl : j = k := by omega
      go_wp2
      go_returns
      exact ⟨ret_int (by simp [HP.out]), rfl⟩
theorem l9Power_36 (k : Nat) (hk : k ≤ 6) (w : World) : Calls Try.prog 101 #[.int .i64 36, .int .i64 (k : Int)] w fun e w' => e = .returned (.int .i64 (36 ^ k : Nat)) ∧ w = w' := l9Power_n 36 k (Nat.le_refl _) hk w
theorem noHits_n (n k : Nat) (hn : n < 68719476736) (hk : k ≤ 6) (w : World) : Calls Try.prog 105 #[.int .u64 (n : Int), .int .i64 (k : Int)] w fun e w' => e = .returned (.int .i64 ((36 - cnt n) ^ k : Nat)) ∧ w = w' := by
  obtain ⟨e, he, he2, hl⟩ := sub36 (cnt_le n)
  have HP := Lib.hid (fun w => power_n e k hl hk w)
  rw [← he2]
  obtain ⟨P, hP⟩ : ∃ P, P = e ^ k := ⟨_, rfl⟩
  rw [← hP] at HP ⊢
  clear hP he2
  go_enter Try.func105, Try.ntmps105
  go_wp2_with (first | (go_at_call 104; refine (size_n n hn _).mono ?_; rintro e w' ⟨rfl, rfl⟩) | (go_at_call 106; refine (HP.out _).mono ?_; rintro e w' ⟨rfl, rfl⟩))
  go_returns
  exact ⟨rfl, rfl⟩
theorem l9Odd_n (h k : Nat) (hh : h ≤ 36) (hk : k ≤ 6) (w : World) : Calls Try.prog 107 #[.int .i64 (h : Int), .int .i64 (k : Int)] w fun e w' => e = .returned (.int .i64 ((eo h k).2 : Nat)) ∧ w = w' := by
  obtain ⟨e, he, he2, hl⟩ := sub36 hh
  have HE := Lib.hid he2
  clear he2
  go_enter Try.func107, Try.ntmps107
  go_wp2
  go_loop [5, 6, 7] (fun a b i => ∃ j E O : Nat, j ≤ k ∧ (E, O) = eo h j ∧ i = .int .i64 (j : Int) ∧ a = .int .i64 (E : Int) ∧ b = .int .i64 (O : Int)) (fun _ _ i => k - (intOf i).toNat)
  case atStart => exact ⟨0, 1, 0, Nat.zero_le _, rfl, rfl, rfl, rfl⟩
  case round =>
    obtain ⟨j, E, O, hj, hP, rfl, rfl, rfl⟩ := hrel
    have b := eo_le hh (show j ≤ 6 by omega)
    rw [← hP] at b
    obtain ⟨b1, b2⟩ : E ≤ 2176782336 ∧ O ≤ 2176782336 := b
    have HP := Lib.hid hP
    obtain ⟨m0, m1⟩ := mul_bd3 hl b1
    obtain ⟨m2, m3⟩ := mul_bd3 hh b2
    obtain ⟨m4, m5⟩ := mul_bd3 hl b2
    obtain ⟨m6, m7⟩ := mul_bd3 hh b1
    clear hP
    by_cases hlt : j < k
    · go_wp2
      refine ⟨⟨j + 1, E * e + O * h, O * e + E * h, by omega, by rw [eo, ← HP.out, ← HE.out], by go_num, val_int (by rw [Int.natCast_add, Int.natCast_mul, Int.natCast_mul]), val_int (by rw [Int.natCast_add, Int.natCast_mul, Int.natCast_mul])⟩, by simp [intOf]; omega⟩
    · obtain rfl : j = k := by omega
      go_wp2
      go_returns
      exact ⟨ret_int (by rw [← HP.out]), rfl⟩
theorem oddHits_n (n k : Nat) (hn : n < 68719476736) (hk : k ≤ 6) (w : World) : Calls Try.prog 108 #[.int .u64 (n : Int), .int .i64 (k : Int)] w fun e w' => e = .returned (.int .i64 ((eo (cnt n) k).2 : Nat)) ∧ w = w' := by
  have HS := Lib.hid (fun w => size_n n hn w)
  have hh := cnt_le n
  obtain ⟨h, hc⟩ : ∃ h, h = cnt n := ⟨_, rfl⟩
  rw [← hc] at HS hh ⊢
  clear hc
  obtain ⟨e, he, he2, hl⟩ := sub36 hh
  have HE := Lib.hid he2
  clear he2
  go_enter Try.func108, Try.ntmps108
  go_wp2_with (go_at_call 104; refine (HS.out _).mono ?_; rintro e w' ⟨rfl, rfl⟩)
  go_loop [5, 6, 11] (fun a b i => ∃ j E O : Nat, j ≤ k ∧ (E, O) = eo h j ∧ i = .int .i64 (j : Int) ∧ a = .int .i64 (E : Int) ∧ b = .int .i64 (O : Int)) (fun _ _ i => k - (intOf i).toNat)
  case atStart => exact ⟨0, 1, 0, Nat.zero_le _, rfl, rfl, rfl, rfl⟩
  case round =>
    obtain ⟨j, E, O, hj, hP, rfl, rfl, rfl⟩ := hrel
    have b := eo_le hh (show j ≤ 6 by omega)
    rw [← hP] at b
    obtain ⟨b1, b2⟩ : E ≤ 2176782336 ∧ O ≤ 2176782336 := b
    have HP := Lib.hid hP
    obtain ⟨m0, m1⟩ := mul_bd3 hl b1
    obtain ⟨m2, m3⟩ := mul_bd3 hh b2
    obtain ⟨m4, m5⟩ := mul_bd3 hl b2
    obtain ⟨m6, m7⟩ := mul_bd3 hh b1
    clear hP
    by_cases hlt : j < k
    · go_wp2
      refine ⟨⟨j + 1, E * e + O * h, O * e + E * h, by omega, by rw [eo, ← HP.out, ← HE.out], by go_num, val_int (by rw [Int.natCast_add, Int.natCast_mul, Int.natCast_mul]), val_int (by rw [Int.natCast_add, Int.natCast_mul, Int.natCast_mul])⟩, by simp [intOf]; omega⟩
    · obtain rfl : j = k := by omega
      go_wp2
      go_returns
      exact ⟨ret_int (by rw [← HP.out]), rfl⟩
theorem l9Good_is (r s : Nat → Int) (i : Int) (b : Bool) (h : (vs r && vs s && inR i 0 6) = b) (w : World) : Calls Try.prog 98 #[(.agg #[.int .i64 (r 0), .int .i64 (r 1), .int .i64 (r 2), .int .i64 (r 3), .int .i64 (r 4), .int .i64 (r 5)]), (.agg #[.int .i64 (s 0), .int .i64 (s 1), .int .i64 (s 2), .int .i64 (s 3), .int .i64 (s 4), .int .i64 (s 5)]), .int .i64 i] w fun e w' => e = .returned (.bool b) ∧ Ext w w' := by
  subst h
  cases h1 : vs r <;> cases h2 : vs s <;> cases h3 : inR i 0 6
  all_goals
    replace h1 := Lib.hid h1
    replace h2 := Lib.hid h2
    replace h3 := Lib.hid h3
    skip
    go_enter Try.func98, Try.ntmps98
    have tk0 := Lib.hid True.intro
    go_wp2_with (first | (clear tk0; (go_at_call 71; refine (l2Sheet_is r _ h1.out _).mono ?_; rintro e w1 ⟨rfl, hE⟩; replace k0_0 : w1.cell? ⟨w.heap.size, 0, none⟩ = some (.int .i64 (r 0)) := (hE.cells _ _ (by first | exact l0 | (simp; done) | (simp; omega))).trans (by first | exact k0_0 | (go_simp; done)); replace k0_1 : w1.cell? ⟨w.heap.size, 1, none⟩ = some (.int .i64 (r 1)) := (hE.cells _ _ (by first | exact l0 | (simp; done) | (simp; omega))).trans (by first | exact k0_1 | (go_simp; done)); replace k0_2 : w1.cell? ⟨w.heap.size, 2, none⟩ = some (.int .i64 (r 2)) := (hE.cells _ _ (by first | exact l0 | (simp; done) | (simp; omega))).trans (by first | exact k0_2 | (go_simp; done)); replace k0_3 : w1.cell? ⟨w.heap.size, 3, none⟩ = some (.int .i64 (r 3)) := (hE.cells _ _ (by first | exact l0 | (simp; done) | (simp; omega))).trans (by first | exact k0_3 | (go_simp; done)); replace k0_4 : w1.cell? ⟨w.heap.size, 4, none⟩ = some (.int .i64 (r 4)) := (hE.cells _ _ (by first | exact l0 | (simp; done) | (simp; omega))).trans (by first | exact k0_4 | (go_simp; done)); replace k0_5 : w1.cell? ⟨w.heap.size, 5, none⟩ = some (.int .i64 (r 5)) := (hE.cells _ _ (by first | exact l0 | (simp; done) | (simp; omega))).trans (by first | exact k0_5 | (go_simp; done)); replace k1_0 : w1.cell? ⟨w.heap.size + 1, 0, none⟩ = some (.int .i64 (s 0)) := (hE.cells _ _ (by first | exact l1 | (simp; done) | (simp; omega))).trans (by first | exact k1_0 | (go_simp; done)); replace k1_1 : w1.cell? ⟨w.heap.size + 1, 1, none⟩ = some (.int .i64 (s 1)) := (hE.cells _ _ (by first | exact l1 | (simp; done) | (simp; omega))).trans (by first | exact k1_1 | (go_simp; done)); replace k1_2 : w1.cell? ⟨w.heap.size + 1, 2, none⟩ = some (.int .i64 (s 2)) := (hE.cells _ _ (by first | exact l1 | (simp; done) | (simp; omega))).trans (by first | exact k1_2 | (go_simp; done)); replace k1_3 : w1.cell? ⟨w.heap.size + 1, 3, none⟩ = some (.int .i64 (s 3)) := (hE.cells _ _ (by first | exact l1 | (simp; done) | (simp; omega))).trans (by first | exact k1_3 | (go_simp; done)); replace k1_4 : w1.cell? ⟨w.heap.size + 1, 4, none⟩ = some (.int .i64 (s 4)) := (hE.cells _ _ (by first | exact l1 | (simp; done) | (simp; omega))).trans (by first | exact k1_4 | (go_simp; done)); replace k1_5 : w1.cell? ⟨w.heap.size + 1, 5, none⟩ = some (.int .i64 (s 5)) := (hE.cells _ _ (by first | exact l1 | (simp; done) | (simp; omega))).trans (by first | exact k1_5 | (go_simp; done)); replace l0 : w.heap.size < w1.heap.size := Nat.lt_of_lt_of_le (by first | exact l0 | (simp; done) | (simp; omega)) hE.size; replace l1 : w.heap.size + 1 < w1.heap.size := Nat.lt_of_lt_of_le (by first | exact l1 | (simp; done) | (simp; omega)) hE.size)) | (go_at_call 71; refine (l2Sheet_is s _ h2.out _).mono ?_; rintro e w1 ⟨rfl, hE⟩; replace k0_0 : w1.cell? ⟨w.heap.size, 0, none⟩ = some (.int .i64 (r 0)) := (hE.cells _ _ (by first | exact l0 | (simp; done) | (simp; omega))).trans (by first | exact k0_0 | (go_simp; done)); replace k0_1 : w1.cell? ⟨w.heap.size, 1, none⟩ = some (.int .i64 (r 1)) := (hE.cells _ _ (by first | exact l0 | (simp; done) | (simp; omega))).trans (by first | exact k0_1 | (go_simp; done)); replace k0_2 : w1.cell? ⟨w.heap.size, 2, none⟩ = some (.int .i64 (r 2)) := (hE.cells _ _ (by first | exact l0 | (simp; done) | (simp; omega))).trans (by first | exact k0_2 | (go_simp; done)); replace k0_3 : w1.cell? ⟨w.heap.size, 3, none⟩ = some (.int .i64 (r 3)) := (hE.cells _ _ (by first | exact l0 | (simp; done) | (simp; omega))).trans (by first | exact k0_3 | (go_simp; done)); replace k0_4 : w1.cell? ⟨w.heap.size, 4, none⟩ = some (.int .i64 (r 4)) := (hE.cells _ _ (by first | exact l0 | (simp; done) | (simp; omega))).trans (by first | exact k0_4 | (go_simp; done)); replace k0_5 : w1.cell? ⟨w.heap.size, 5, none⟩ = some (.int .i64 (r 5)) := (hE.cells _ _ (by first | exact l0 | (simp; done) | (simp; omega))).trans (by first | exact k0_5 | (go_simp; done)); replace k1_0 : w1.cell? ⟨w.heap.size + 1, 0, none⟩ = some (.int .i64 (s 0)) := (hE.cells _ _ (by first | exact l1 | (simp; done) | (simp; omega))).trans (by first | exact k1_0 | (go_simp; done)); replace k1_1 : w1.cell? ⟨w.heap.size + 1, 1, none⟩ = some (.int .i64 (s 1)) := (hE.cells _ _ (by first | exact l1 | (simp; done) | (simp; omega))).trans (by first | exact k1_1 | (go_simp; done)); replace k1_2 : w1.cell? ⟨w.heap.size + 1, 2, none⟩ = some (.int .i64 (s 2)) := (hE.cells _ _ (by first | exact l1 | (simp; done) | (simp; omega))).trans (by first | exact k1_2 | (go_simp; done)); replace k1_3 : w1.cell? ⟨w.heap.size + 1, 3, none⟩ = some (.int .i64 (s 3)) := (hE.cells _ _ (by first | exact l1 | (simp; done) | (simp; omega))).trans (by first | exact k1_3 | (go_simp; done)); replace k1_4 : w1.cell? ⟨w.heap.size + 1, 4, none⟩ = some (.int .i64 (s 4)) := (hE.cells _ _ (by first | exact l1 | (simp; done) | (simp; omega))).trans (by first | exact k1_4 | (go_simp; done)); replace k1_5 : w1.cell? ⟨w.heap.size + 1, 5, none⟩ = some (.int .i64 (s 5)) := (hE.cells _ _ (by first | exact l1 | (simp; done) | (simp; omega))).trans (by first | exact k1_5 | (go_simp; done)); replace l0 : w.heap.size < w1.heap.size := Nat.lt_of_lt_of_le (by first | exact l0 | (simp; done) | (simp; omega)) hE.size; replace l1 : w.heap.size + 1 < w1.heap.size := Nat.lt_of_lt_of_le (by first | exact l1 | (simp; done) | (simp; omega)) hE.size) | (go_at_call 91; refine (l1In_is i _ _ _ h3.out _).mono ?_; rintro e w' ⟨rfl, rfl⟩))
    go_returns
    exact ⟨rfl, (by (repeat' (first | (with_reducible exact Ext.refl _) | (with_reducible assumption) | (with_reducible refine Ext.alloc ?_ _) | (with_reducible refine Ext.drew ?_) | (with_reducible refine Ext.drewN ?_ _) | (with_reducible refine Ext.setCell ?_ ?_ _) | (with_reducible refine Ext.trans ?_ (by assumption)))) <;> (first | (with_reducible assumption) | omega | (simp; done) | (simp; omega)))⟩
theorem pressing_is (r s : Nat → Int) (i : Int) (b : Bool) (h : (vs r && vs s && inR i 0 6) = b) (w : World) : Calls Try.prog 102 #[(.agg #[.int .i64 (r 0), .int .i64 (r 1), .int .i64 (r 2), .int .i64 (r 3), .int .i64 (r 4), .int .i64 (r 5)]), (.agg #[.int .i64 (s 0), .int .i64 (s 1), .int .i64 (s 2), .int .i64 (s 3), .int .i64 (s 4), .int .i64 (s 5)]), .int .i64 i] w fun e w' => e = .returned (.tuple #[.int .u64 (setN r : Int), .int .u64 (setN s : Int), .bool b]) ∧ Ext w w' := by
  have HT := Lib.hid (fun w => twoSets_is r s _ _ rfl rfl w)
  obtain ⟨c, hc⟩ : ∃ c, (vs r && vs s) = c := ⟨_, rfl⟩
  rw [hc] at HT h
  generalize setN r = x at *
  generalize setN s = y at *
  clear hc
  subst h
  cases c
  · skip
    go_enter Try.func102, Try.ntmps102
    go_wp2_with (go_at_call 80; refine (HT.out _).mono ?_; rintro e w1 ⟨rfl, hE⟩; replace k0_0 : w1.cell? ⟨w.heap.size, 0, none⟩ = some (.int .i64 (r 0)) := (hE.cells _ _ (by first | exact l0 | (simp; done) | (simp; omega))).trans (by first | exact k0_0 | (go_simp; done)); replace k0_1 : w1.cell? ⟨w.heap.size, 1, none⟩ = some (.int .i64 (r 1)) := (hE.cells _ _ (by first | exact l0 | (simp; done) | (simp; omega))).trans (by first | exact k0_1 | (go_simp; done)); replace k0_2 : w1.cell? ⟨w.heap.size, 2, none⟩ = some (.int .i64 (r 2)) := (hE.cells _ _ (by first | exact l0 | (simp; done) | (simp; omega))).trans (by first | exact k0_2 | (go_simp; done)); replace k0_3 : w1.cell? ⟨w.heap.size, 3, none⟩ = some (.int .i64 (r 3)) := (hE.cells _ _ (by first | exact l0 | (simp; done) | (simp; omega))).trans (by first | exact k0_3 | (go_simp; done)); replace k0_4 : w1.cell? ⟨w.heap.size, 4, none⟩ = some (.int .i64 (r 4)) := (hE.cells _ _ (by first | exact l0 | (simp; done) | (simp; omega))).trans (by first | exact k0_4 | (go_simp; done)); replace k0_5 : w1.cell? ⟨w.heap.size, 5, none⟩ = some (.int .i64 (r 5)) := (hE.cells _ _ (by first | exact l0 | (simp; done) | (simp; omega))).trans (by first | exact k0_5 | (go_simp; done)); replace k1_0 : w1.cell? ⟨w.heap.size + 1, 0, none⟩ = some (.int .i64 (s 0)) := (hE.cells _ _ (by first | exact l1 | (simp; done) | (simp; omega))).trans (by first | exact k1_0 | (go_simp; done)); replace k1_1 : w1.cell? ⟨w.heap.size + 1, 1, none⟩ = some (.int .i64 (s 1)) := (hE.cells _ _ (by first | exact l1 | (simp; done) | (simp; omega))).trans (by first | exact k1_1 | (go_simp; done)); replace k1_2 : w1.cell? ⟨w.heap.size + 1, 2, none⟩ = some (.int .i64 (s 2)) := (hE.cells _ _ (by first | exact l1 | (simp; done) | (simp; omega))).trans (by first | exact k1_2 | (go_simp; done)); replace k1_3 : w1.cell? ⟨w.heap.size + 1, 3, none⟩ = some (.int .i64 (s 3)) := (hE.cells _ _ (by first | exact l1 | (simp; done) | (simp; omega))).trans (by first | exact k1_3 | (go_simp; done)); replace k1_4 : w1.cell? ⟨w.heap.size + 1, 4, none⟩ = some (.int .i64 (s 4)) := (hE.cells _ _ (by first | exact l1 | (simp; done) | (simp; omega))).trans (by first | exact k1_4 | (go_simp; done)); replace k1_5 : w1.cell? ⟨w.heap.size + 1, 5, none⟩ = some (.int .i64 (s 5)) := (hE.cells _ _ (by first | exact l1 | (simp; done) | (simp; omega))).trans (by first | exact k1_5 | (go_simp; done)); replace l0 : w.heap.size < w1.heap.size := Nat.lt_of_lt_of_le (by first | exact l0 | (simp; done) | (simp; omega)) hE.size; replace l1 : w.heap.size + 1 < w1.heap.size := Nat.lt_of_lt_of_le (by first | exact l1 | (simp; done) | (simp; omega)) hE.size)
    go_returns
    exact ⟨rfl, (by (repeat' (first | (with_reducible exact Ext.refl _) | (with_reducible assumption) | (with_reducible refine Ext.alloc ?_ _) | (with_reducible refine Ext.drew ?_) | (with_reducible refine Ext.drewN ?_ _) | (with_reducible refine Ext.setCell ?_ ?_ _) | (with_reducible refine Ext.trans ?_ (by assumption)))) <;> (first | (with_reducible assumption) | omega | (simp; done) | (simp; omega)))⟩
  · skip
    go_enter Try.func102, Try.ntmps102
    go_wp2_with (go_at_call 80; refine (HT.out _).mono ?_; rintro e w1 ⟨rfl, hE⟩; replace k0_0 : w1.cell? ⟨w.heap.size, 0, none⟩ = some (.int .i64 (r 0)) := (hE.cells _ _ (by first | exact l0 | (simp; done) | (simp; omega))).trans (by first | exact k0_0 | (go_simp; done)); replace k0_1 : w1.cell? ⟨w.heap.size, 1, none⟩ = some (.int .i64 (r 1)) := (hE.cells _ _ (by first | exact l0 | (simp; done) | (simp; omega))).trans (by first | exact k0_1 | (go_simp; done)); replace k0_2 : w1.cell? ⟨w.heap.size, 2, none⟩ = some (.int .i64 (r 2)) := (hE.cells _ _ (by first | exact l0 | (simp; done) | (simp; omega))).trans (by first | exact k0_2 | (go_simp; done)); replace k0_3 : w1.cell? ⟨w.heap.size, 3, none⟩ = some (.int .i64 (r 3)) := (hE.cells _ _ (by first | exact l0 | (simp; done) | (simp; omega))).trans (by first | exact k0_3 | (go_simp; done)); replace k0_4 : w1.cell? ⟨w.heap.size, 4, none⟩ = some (.int .i64 (r 4)) := (hE.cells _ _ (by first | exact l0 | (simp; done) | (simp; omega))).trans (by first | exact k0_4 | (go_simp; done)); replace k0_5 : w1.cell? ⟨w.heap.size, 5, none⟩ = some (.int .i64 (r 5)) := (hE.cells _ _ (by first | exact l0 | (simp; done) | (simp; omega))).trans (by first | exact k0_5 | (go_simp; done)); replace k1_0 : w1.cell? ⟨w.heap.size + 1, 0, none⟩ = some (.int .i64 (s 0)) := (hE.cells _ _ (by first | exact l1 | (simp; done) | (simp; omega))).trans (by first | exact k1_0 | (go_simp; done)); replace k1_1 : w1.cell? ⟨w.heap.size + 1, 1, none⟩ = some (.int .i64 (s 1)) := (hE.cells _ _ (by first | exact l1 | (simp; done) | (simp; omega))).trans (by first | exact k1_1 | (go_simp; done)); replace k1_2 : w1.cell? ⟨w.heap.size + 1, 2, none⟩ = some (.int .i64 (s 2)) := (hE.cells _ _ (by first | exact l1 | (simp; done) | (simp; omega))).trans (by first | exact k1_2 | (go_simp; done)); replace k1_3 : w1.cell? ⟨w.heap.size + 1, 3, none⟩ = some (.int .i64 (s 3)) := (hE.cells _ _ (by first | exact l1 | (simp; done) | (simp; omega))).trans (by first | exact k1_3 | (go_simp; done)); replace k1_4 : w1.cell? ⟨w.heap.size + 1, 4, none⟩ = some (.int .i64 (s 4)) := (hE.cells _ _ (by first | exact l1 | (simp; done) | (simp; omega))).trans (by first | exact k1_4 | (go_simp; done)); replace k1_5 : w1.cell? ⟨w.heap.size + 1, 5, none⟩ = some (.int .i64 (s 5)) := (hE.cells _ _ (by first | exact l1 | (simp; done) | (simp; omega))).trans (by first | exact k1_5 | (go_simp; done)); replace l0 : w.heap.size < w1.heap.size := Nat.lt_of_lt_of_le (by first | exact l0 | (simp; done) | (simp; omega)) hE.size; replace l1 : w.heap.size + 1 < w1.heap.size := Nat.lt_of_lt_of_le (by first | exact l1 | (simp; done) | (simp; omega)) hE.size)
    all_goals (go_returns; exact ⟨ret3_bool' (by unfold inR; simp; omega), (by (repeat' (first | (with_reducible exact Ext.refl _) | (with_reducible assumption) | (with_reducible refine Ext.alloc ?_ _) | (with_reducible refine Ext.drew ?_) | (with_reducible refine Ext.drewN ?_ _) | (with_reducible refine Ext.setCell ?_ ?_ _) | (with_reducible refine Ext.trans ?_ (by assumption)))) <;> (first | (with_reducible assumption) | omega | (simp; done) | (simp; omega)))⟩)
end Go.Proofs.Ytencocennomehaa
