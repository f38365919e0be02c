/- Greed: contracts of functions, and lemmas, for this seat. Conditions: as each states. -/
import Derived.Test.YtppgdppglnfpkaaInk
import Derived.Test.YtppgdppglnfpkaaCovM
import Derived.Test.YtppgdppglnfpkaaBig
import Derived.Test.YtppgdppglnfpkaaFrac
set_option linter.unusedVariables false
set_option maxRecDepth 100000
set_option maxHeartbeats 4000000
namespace Go.Proofs.Ytppgdppglnfpkaa
open Go Go.RowKit Instr
theorem big_grown {w w' : World} {bk : Nat} {T : TypeId} {N : Nat} {g : Nat → Int} {B : Nat} {e : TypeId} {size : Nat} {v : Value} {n : Nat} {xs : List Value} (hb : Big w bk T N g) (ho : w.ownsRow B e size v n xs) (hne : T ≠ e) (hg : w.grownBy w' v.ownBlock) : Big w' bk T N g := by
  refine (hg.block bk hb.lt fun h => ?_).trans hb
  rcases ho.2 with ⟨hv, _⟩ | ⟨q, cap, cur, hv, _, hq, _⟩
  · rw [hv] at h; cases h
  · rw [hv] at h
    obtain rfl : bk = q := by simpa [Value.ownBlock] using h
    unfold Big at hb
    rw [hb] at hq
    injection hq with hq
    injection hq with _ h2
    exact hne h2
theorem get_bang {L : List Nat} {q k : Nat} (h : L[q]? = some k) : L[q]! = k := by
  obtain ⟨h1, h2⟩ := List.getElem?_eq_some_iff.1 h
  rw [getElem!_pos L q h1, h2]
theorem gi_bd (f : Nat → Nat) (b : Nat) (L : List Nat) : ∀ j, (gi f b L j).1 ≤ j ∧ -1 ≤ (gi f b L j).2 ∧ (gi f b L j).2 ≤ 36
  | 0 => by rw [gi_0]; exact ⟨Nat.le_refl _, by dsimp only; omega, by dsimp only; omega⟩
  | j + 1 => by
    obtain ⟨h1, h2, h3⟩ := gi_bd f b L j
    have := cnt_le (mns (f L[j]!) b)
    rw [gi_1]
    split
    · exact ⟨by dsimp only; omega, by dsimp only; omega, by dsimp only; omega⟩
    · exact ⟨by omega, h2, h3⟩
/-- how long a slice is -/
def slLen : Value → Nat
  | .slice _ n _ => n
  | _ => 0
/-- with how many presses the greedy way ends -/
theorem greedy_end (n m : Nat) (hm : m < 68719476736) (hc : canP n m = true) : ∃ N, N ≤ 36 ∧ (gB (pr6 n) (fl (opP n m) 36) N).1 = m ∧ (∀ i, i < N → (gB (pr6 n) (fl (opP n m) 36) i).1 ≠ m) ∧ (0 < N → 0 < (fl (opP n m) 36).length) := by
  have hz : inkL n (fl (opP n m) 36) = m := by unfold canP at hc; exact of_decide_eq_true hc
  obtain ⟨N, h1, h2, h3⟩ := gB_end (pr6 n) (pr6_lt n) m hm (fl (opP n m) 36) (fun k hk => by
    have := (List.mem_filter.1 hk).2
    unfold opP at this
    exact this) (fun q hq hb => inkL_bit n q _ (by rw [hz]; exact hb))
  refine ⟨N, h1, h2, h3, fun h0 => ?_⟩
  rcases Nat.eq_zero_or_pos (fl (opP n m) 36).length with e | e
  · rw [List.eq_nil_of_length_eq_zero e] at hz
    have := h3 0 h0
    rw [gB_0] at this
    exact absurd hz this
  · exact e
theorem GreedyCover_badS (r s : Nat → Int) (h : (vs r && vs s) = false) (w : World) : Calls Try.prog 43 #[(.agg #[.int .i64 (r 0), .int .i64 (r 1), .int .i64 (r 2), .int .i64 (r 3), .int .i64 (r 4), .int .i64 (r 5)]), (.agg #[.int .i64 (s 0), .int .i64 (s 1), .int .i64 (s 2), .int .i64 (s 3), .int .i64 (s 4), .int .i64 (s 5)])] w fun e w' => ∃ v, e = .returned (.tuple #[v, .bool false]) ∧ Ext w w' ∧ w'.ownsRow w.heap.size 72 2 v 0 [] := by
  have HT := Lib.hid (fun w => twoSets_is r s _ _ rfl rfl w)
  rw [h] at HT
  generalize setN r = a at *
  generalize setN s = b at *
  clear h
  skip
  go_enter Try.func43, Try.ntmps43
  go_wp2_with (go_at_call 78; refine (HT.out _).mono ?_; rintro e w1 ⟨rfl, hE⟩; replace k0_0 : w1.cell? ⟨w.heap.size, 0, none⟩ = some (.int .i64 (r 0)) := (hE.cells _ _ (by first | exact l0 | (simp; done) | (simp; omega))).trans (by first | exact k0_0 | (go_simp; done)); replace k0_1 : w1.cell? ⟨w.heap.size, 1, none⟩ = some (.int .i64 (r 1)) := (hE.cells _ _ (by first | exact l0 | (simp; done) | (simp; omega))).trans (by first | exact k0_1 | (go_simp; done)); replace k0_2 : w1.cell? ⟨w.heap.size, 2, none⟩ = some (.int .i64 (r 2)) := (hE.cells _ _ (by first | exact l0 | (simp; done) | (simp; omega))).trans (by first | exact k0_2 | (go_simp; done)); replace k0_3 : w1.cell? ⟨w.heap.size, 3, none⟩ = some (.int .i64 (r 3)) := (hE.cells _ _ (by first | exact l0 | (simp; done) | (simp; omega))).trans (by first | exact k0_3 | (go_simp; done)); replace k0_4 : w1.cell? ⟨w.heap.size, 4, none⟩ = some (.int .i64 (r 4)) := (hE.cells _ _ (by first | exact l0 | (simp; done) | (simp; omega))).trans (by first | exact k0_4 | (go_simp; done)); replace k0_5 : w1.cell? ⟨w.heap.size, 5, none⟩ = some (.int .i64 (r 5)) := (hE.cells _ _ (by first | exact l0 | (simp; done) | (simp; omega))).trans (by first | exact k0_5 | (go_simp; done)); replace k1_0 : w1.cell? ⟨w.heap.size + 1, 0, none⟩ = some (.int .i64 (s 0)) := (hE.cells _ _ (by first | exact l1 | (simp; done) | (simp; omega))).trans (by first | exact k1_0 | (go_simp; done)); replace k1_1 : w1.cell? ⟨w.heap.size + 1, 1, none⟩ = some (.int .i64 (s 1)) := (hE.cells _ _ (by first | exact l1 | (simp; done) | (simp; omega))).trans (by first | exact k1_1 | (go_simp; done)); replace k1_2 : w1.cell? ⟨w.heap.size + 1, 2, none⟩ = some (.int .i64 (s 2)) := (hE.cells _ _ (by first | exact l1 | (simp; done) | (simp; omega))).trans (by first | exact k1_2 | (go_simp; done)); replace k1_3 : w1.cell? ⟨w.heap.size + 1, 3, none⟩ = some (.int .i64 (s 3)) := (hE.cells _ _ (by first | exact l1 | (simp; done) | (simp; omega))).trans (by first | exact k1_3 | (go_simp; done)); replace k1_4 : w1.cell? ⟨w.heap.size + 1, 4, none⟩ = some (.int .i64 (s 4)) := (hE.cells _ _ (by first | exact l1 | (simp; done) | (simp; omega))).trans (by first | exact k1_4 | (go_simp; done)); replace k1_5 : w1.cell? ⟨w.heap.size + 1, 5, none⟩ = some (.int .i64 (s 5)) := (hE.cells _ _ (by first | exact l1 | (simp; done) | (simp; omega))).trans (by first | exact k1_5 | (go_simp; done)); replace l0 : w.heap.size < w1.heap.size := Nat.lt_of_lt_of_le (by first | exact l0 | (simp; done) | (simp; omega)) hE.size; replace l1 : w.heap.size + 1 < w1.heap.size := Nat.lt_of_lt_of_le (by first | exact l1 | (simp; done) | (simp; omega)) hE.size)
  go_returns
  exact ⟨_, rfl, (by (repeat' (first | (with_reducible exact Ext.refl _) | (with_reducible assumption) | (with_reducible refine Ext.alloc ?_ _) | (with_reducible refine Ext.drew ?_) | (with_reducible refine Ext.drewN ?_ _) | (with_reducible refine Ext.setCell ?_ ?_ _) | (with_reducible refine Ext.trans ?_ (by assumption)))) <;> (first | (with_reducible assumption) | omega | (simp; done) | (simp; omega))), World.ownsRow_nil _ _ _ _⟩
theorem GreedyCover_no (n m : Nat) (hn : n < 68719476736) (hm : m < 68719476736) (h : canP n m = false) (w : World) : Calls Try.prog 43 #[(.agg #[.int .i64 (rw n 0), .int .i64 (rw n 1), .int .i64 (rw n 2), .int .i64 (rw n 3), .int .i64 (rw n 4), .int .i64 (rw n 5)]), (.agg #[.int .i64 (rw m 0), .int .i64 (rw m 1), .int .i64 (rw m 2), .int .i64 (rw m 3), .int .i64 (rw m 4), .int .i64 (rw m 5)])] w fun e w' => ∃ v, e = .returned (.tuple #[v, .bool false]) ∧ Ext w w' ∧ w'.ownsRow w.heap.size 72 2 v 0 [] := by
  have HC := Lib.hid (fun w => canInk_n n m hn hm w)
  rw [h] at HC
  clear h
  skip
  go_enter Try.func43, Try.ntmps43
  go_wp2_with (first | (go_at_call 78; refine (twoSets_n n m hn hm _).mono ?_; rintro e w1 ⟨rfl, hE⟩; replace k0_0 : w1.cell? ⟨w.heap.size, 0, none⟩ = some (.int .i64 (rw n 0)) := (hE.cells _ _ (by first | exact l0 | (simp; done) | (simp; omega))).trans (by first | exact k0_0 | (go_simp; done)); replace k0_1 : w1.cell? ⟨w.heap.size, 1, none⟩ = some (.int .i64 (rw n 1)) := (hE.cells _ _ (by first | exact l0 | (simp; done) | (simp; omega))).trans (by first | exact k0_1 | (go_simp; done)); replace k0_2 : w1.cell? ⟨w.heap.size, 2, none⟩ = some (.int .i64 (rw n 2)) := (hE.cells _ _ (by first | exact l0 | (simp; done) | (simp; omega))).trans (by first | exact k0_2 | (go_simp; done)); replace k0_3 : w1.cell? ⟨w.heap.size, 3, none⟩ = some (.int .i64 (rw n 3)) := (hE.cells _ _ (by first | exact l0 | (simp; done) | (simp; omega))).trans (by first | exact k0_3 | (go_simp; done)); replace k0_4 : w1.cell? ⟨w.heap.size, 4, none⟩ = some (.int .i64 (rw n 4)) := (hE.cells _ _ (by first | exact l0 | (simp; done) | (simp; omega))).trans (by first | exact k0_4 | (go_simp; done)); replace k0_5 : w1.cell? ⟨w.heap.size, 5, none⟩ = some (.int .i64 (rw n 5)) := (hE.cells _ _ (by first | exact l0 | (simp; done) | (simp; omega))).trans (by first | exact k0_5 | (go_simp; done)); replace k1_0 : w1.cell? ⟨w.heap.size + 1, 0, none⟩ = some (.int .i64 (rw m 0)) := (hE.cells _ _ (by first | exact l1 | (simp; done) | (simp; omega))).trans (by first | exact k1_0 | (go_simp; done)); replace k1_1 : w1.cell? ⟨w.heap.size + 1, 1, none⟩ = some (.int .i64 (rw m 1)) := (hE.cells _ _ (by first | exact l1 | (simp; done) | (simp; omega))).trans (by first | exact k1_1 | (go_simp; done)); replace k1_2 : w1.cell? ⟨w.heap.size + 1, 2, none⟩ = some (.int .i64 (rw m 2)) := (hE.cells _ _ (by first | exact l1 | (simp; done) | (simp; omega))).trans (by first | exact k1_2 | (go_simp; done)); replace k1_3 : w1.cell? ⟨w.heap.size + 1, 3, none⟩ = some (.int .i64 (rw m 3)) := (hE.cells _ _ (by first | exact l1 | (simp; done) | (simp; omega))).trans (by first | exact k1_3 | (go_simp; done)); replace k1_4 : w1.cell? ⟨w.heap.size + 1, 4, none⟩ = some (.int .i64 (rw m 4)) := (hE.cells _ _ (by first | exact l1 | (simp; done) | (simp; omega))).trans (by first | exact k1_4 | (go_simp; done)); replace k1_5 : w1.cell? ⟨w.heap.size + 1, 5, none⟩ = some (.int .i64 (rw m 5)) := (hE.cells _ _ (by first | exact l1 | (simp; done) | (simp; omega))).trans (by first | exact k1_5 | (go_simp; done)); replace l0 : w.heap.size < w1.heap.size := Nat.lt_of_lt_of_le (by first | exact l0 | (simp; done) | (simp; omega)) hE.size; replace l1 : w.heap.size + 1 < w1.heap.size := Nat.lt_of_lt_of_le (by first | exact l1 | (simp; done) | (simp; omega)) hE.size) | (go_at_call 108; refine (HC.out _).mono ?_; rintro e w1 ⟨rfl, hE⟩; replace k0_0 : w1.cell? ⟨w.heap.size, 0, none⟩ = some (.int .i64 (rw n 0)) := (hE.cells _ _ (by first | exact l0 | (simp; done) | (simp; omega))).trans (by first | exact k0_0 | (go_simp; done)); replace k0_1 : w1.cell? ⟨w.heap.size, 1, none⟩ = some (.int .i64 (rw n 1)) := (hE.cells _ _ (by first | exact l0 | (simp; done) | (simp; omega))).trans (by first | exact k0_1 | (go_simp; done)); replace k0_2 : w1.cell? ⟨w.heap.size, 2, none⟩ = some (.int .i64 (rw n 2)) := (hE.cells _ _ (by first | exact l0 | (simp; done) | (simp; omega))).trans (by first | exact k0_2 | (go_simp; done)); replace k0_3 : w1.cell? ⟨w.heap.size, 3, none⟩ = some (.int .i64 (rw n 3)) := (hE.cells _ _ (by first | exact l0 | (simp; done) | (simp; omega))).trans (by first | exact k0_3 | (go_simp; done)); replace k0_4 : w1.cell? ⟨w.heap.size, 4, none⟩ = some (.int .i64 (rw n 4)) := (hE.cells _ _ (by first | exact l0 | (simp; done) | (simp; omega))).trans (by first | exact k0_4 | (go_simp; done)); replace k0_5 : w1.cell? ⟨w.heap.size, 5, none⟩ = some (.int .i64 (rw n 5)) := (hE.cells _ _ (by first | exact l0 | (simp; done) | (simp; omega))).trans (by first | exact k0_5 | (go_simp; done)); replace k1_0 : w1.cell? ⟨w.heap.size + 1, 0, none⟩ = some (.int .i64 (rw m 0)) := (hE.cells _ _ (by first | exact l1 | (simp; done) | (simp; omega))).trans (by first | exact k1_0 | (go_simp; done)); replace k1_1 : w1.cell? ⟨w.heap.size + 1, 1, none⟩ = some (.int .i64 (rw m 1)) := (hE.cells _ _ (by first | exact l1 | (simp; done) | (simp; omega))).trans (by first | exact k1_1 | (go_simp; done)); replace k1_2 : w1.cell? ⟨w.heap.size + 1, 2, none⟩ = some (.int .i64 (rw m 2)) := (hE.cells _ _ (by first | exact l1 | (simp; done) | (simp; omega))).trans (by first | exact k1_2 | (go_simp; done)); replace k1_3 : w1.cell? ⟨w.heap.size + 1, 3, none⟩ = some (.int .i64 (rw m 3)) := (hE.cells _ _ (by first | exact l1 | (simp; done) | (simp; omega))).trans (by first | exact k1_3 | (go_simp; done)); replace k1_4 : w1.cell? ⟨w.heap.size + 1, 4, none⟩ = some (.int .i64 (rw m 4)) := (hE.cells _ _ (by first | exact l1 | (simp; done) | (simp; omega))).trans (by first | exact k1_4 | (go_simp; done)); replace k1_5 : w1.cell? ⟨w.heap.size + 1, 5, none⟩ = some (.int .i64 (rw m 5)) := (hE.cells _ _ (by first | exact l1 | (simp; done) | (simp; omega))).trans (by first | exact k1_5 | (go_simp; done)); replace l0 : w.heap.size < w1.heap.size := Nat.lt_of_lt_of_le (by first | exact l0 | (simp; done) | (simp; omega)) hE.size; replace l1 : w.heap.size + 1 < w1.heap.size := Nat.lt_of_lt_of_le (by first | exact l1 | (simp; done) | (simp; omega)) hE.size))
  go_returns
  exact ⟨_, rfl, (by (repeat' (first | (with_reducible exact Ext.refl _) | (with_reducible assumption) | (with_reducible refine Ext.alloc ?_ _) | (with_reducible refine Ext.drew ?_) | (with_reducible refine Ext.drewN ?_ _) | (with_reducible refine Ext.setCell ?_ ?_ _) | (with_reducible refine Ext.trans ?_ (by assumption)))) <;> (first | (with_reducible assumption) | omega | (simp; done) | (simp; omega))), World.ownsRow_nil _ _ _ _⟩
theorem GreedyCover_ok (n m : Nat) (hn : n < 68719476736) (hm : m < 68719476736) (h : canP n m = true) (N : Nat) (hN : N ≤ 36) (hNe : (gB (pr6 n) (fl (opP n m) 36) N).1 = m) (hNi : ∀ i, i < N → (gB (pr6 n) (fl (opP n m) 36) i).1 ≠ m) (hN0 : 0 < N → 0 < (fl (opP n m) 36).length) (w : World) :
    Calls Try.prog 43 #[(.agg #[.int .i64 (rw n 0), .int .i64 (rw n 1), .int .i64 (rw n 2), .int .i64 (rw n 3), .int .i64 (rw n 4), .int .i64 (rw n 5)]), (.agg #[.int .i64 (rw m 0), .int .i64 (rw m 1), .int .i64 (rw m 2), .int .i64 (rw m 3), .int .i64 (rw m 4), .int .i64 (rw m 5)])] w fun e w' => ∃ v, e = .returned (.tuple #[v, .bool true]) ∧ Ext w w' ∧ w'.ownsRow w.heap.size 72 2 v N (pxy (gB (pr6 n) (fl (opP n m) 36) N).2) := by
  obtain ⟨i0, hi, iz0, iz1, iz2⟩ := info_parts info_int
  have HC := Lib.hid (fun w => canInk_n n m hn hm w)
  rw [h] at HC
  have HO := Lib.hid (fun w => open_n n m hm hn w)
  have HG := Lib.hid (fun i k (h : (fl (opP n m) 36)[i]? = some k) => fl_lt h)
  have hlen := fl_le (opP n m) 36
  have HE := Lib.hid hNe
  have HI := Lib.hid hNi
  clear h hNe hNi
  generalize fl (opP n m) 36 = L at *
  have HW2 := Lib.hid (fun (h0L : 0 < L.length) j (i k : Nat) (hk : (gB (pr6 n) L j).2[i]? = some k) => gB_mem (pr6 n) L HG.out h0L j i k hk)
  have HW3 : ∀ (i k : Nat), (gB (pr6 n) L N).2[i]? = some k → k < 36 := fun i k hk => by
    rcases Nat.eq_zero_or_pos N with rfl | hp
    · rw [gB_0] at hk; simp at hk
    · exact HW2.out (hN0 hp) N i k hk
  have HCO := Lib.hid (fun B v w ho => cellsOf_n (gB (pr6 n) L N).2 HW3 (by rw [gB_len]; omega) B v w ho)
  rw [gB_len] at HCO
  have HZ := Lib.hid (gB_lt (pr6 n) (pr6_lt n) L)
  skip
  go_enter Try.func43, Try.ntmps43
  go_wp2_with (first | (go_at_call 78; refine (twoSets_n n m hn hm _).mono ?_; rintro e w1 ⟨rfl, hE⟩; replace k0_0 : w1.cell? ⟨w.heap.size, 0, none⟩ = some (.int .i64 (rw n 0)) := (hE.cells _ _ (by first | exact l0 | (simp; done) | (simp; omega))).trans (by first | exact k0_0 | (go_simp; done)); replace k0_1 : w1.cell? ⟨w.heap.size, 1, none⟩ = some (.int .i64 (rw n 1)) := (hE.cells _ _ (by first | exact l0 | (simp; done) | (simp; omega))).trans (by first | exact k0_1 | (go_simp; done)); replace k0_2 : w1.cell? ⟨w.heap.size, 2, none⟩ = some (.int .i64 (rw n 2)) := (hE.cells _ _ (by first | exact l0 | (simp; done) | (simp; omega))).trans (by first | exact k0_2 | (go_simp; done)); replace k0_3 : w1.cell? ⟨w.heap.size, 3, none⟩ = some (.int .i64 (rw n 3)) := (hE.cells _ _ (by first | exact l0 | (simp; done) | (simp; omega))).trans (by first | exact k0_3 | (go_simp; done)); replace k0_4 : w1.cell? ⟨w.heap.size, 4, none⟩ = some (.int .i64 (rw n 4)) := (hE.cells _ _ (by first | exact l0 | (simp; done) | (simp; omega))).trans (by first | exact k0_4 | (go_simp; done)); replace k0_5 : w1.cell? ⟨w.heap.size, 5, none⟩ = some (.int .i64 (rw n 5)) := (hE.cells _ _ (by first | exact l0 | (simp; done) | (simp; omega))).trans (by first | exact k0_5 | (go_simp; done)); replace k1_0 : w1.cell? ⟨w.heap.size + 1, 0, none⟩ = some (.int .i64 (rw m 0)) := (hE.cells _ _ (by first | exact l1 | (simp; done) | (simp; omega))).trans (by first | exact k1_0 | (go_simp; done)); replace k1_1 : w1.cell? ⟨w.heap.size + 1, 1, none⟩ = some (.int .i64 (rw m 1)) := (hE.cells _ _ (by first | exact l1 | (simp; done) | (simp; omega))).trans (by first | exact k1_1 | (go_simp; done)); replace k1_2 : w1.cell? ⟨w.heap.size + 1, 2, none⟩ = some (.int .i64 (rw m 2)) := (hE.cells _ _ (by first | exact l1 | (simp; done) | (simp; omega))).trans (by first | exact k1_2 | (go_simp; done)); replace k1_3 : w1.cell? ⟨w.heap.size + 1, 3, none⟩ = some (.int .i64 (rw m 3)) := (hE.cells _ _ (by first | exact l1 | (simp; done) | (simp; omega))).trans (by first | exact k1_3 | (go_simp; done)); replace k1_4 : w1.cell? ⟨w.heap.size + 1, 4, none⟩ = some (.int .i64 (rw m 4)) := (hE.cells _ _ (by first | exact l1 | (simp; done) | (simp; omega))).trans (by first | exact k1_4 | (go_simp; done)); replace k1_5 : w1.cell? ⟨w.heap.size + 1, 5, none⟩ = some (.int .i64 (rw m 5)) := (hE.cells _ _ (by first | exact l1 | (simp; done) | (simp; omega))).trans (by first | exact k1_5 | (go_simp; done)); replace l0 : w.heap.size < w1.heap.size := Nat.lt_of_lt_of_le (by first | exact l0 | (simp; done) | (simp; omega)) hE.size; replace l1 : w.heap.size + 1 < w1.heap.size := Nat.lt_of_lt_of_le (by first | exact l1 | (simp; done) | (simp; omega)) hE.size) | (go_at_call 108; refine (HC.out _).mono ?_; rintro e w1 ⟨rfl, hE⟩; replace k0_0 : w1.cell? ⟨w.heap.size, 0, none⟩ = some (.int .i64 (rw n 0)) := (hE.cells _ _ (by first | exact l0 | (simp; done) | (simp; omega))).trans (by first | exact k0_0 | (go_simp; done)); replace k0_1 : w1.cell? ⟨w.heap.size, 1, none⟩ = some (.int .i64 (rw n 1)) := (hE.cells _ _ (by first | exact l0 | (simp; done) | (simp; omega))).trans (by first | exact k0_1 | (go_simp; done)); replace k0_2 : w1.cell? ⟨w.heap.size, 2, none⟩ = some (.int .i64 (rw n 2)) := (hE.cells _ _ (by first | exact l0 | (simp; done) | (simp; omega))).trans (by first | exact k0_2 | (go_simp; done)); replace k0_3 : w1.cell? ⟨w.heap.size, 3, none⟩ = some (.int .i64 (rw n 3)) := (hE.cells _ _ (by first | exact l0 | (simp; done) | (simp; omega))).trans (by first | exact k0_3 | (go_simp; done)); replace k0_4 : w1.cell? ⟨w.heap.size, 4, none⟩ = some (.int .i64 (rw n 4)) := (hE.cells _ _ (by first | exact l0 | (simp; done) | (simp; omega))).trans (by first | exact k0_4 | (go_simp; done)); replace k0_5 : w1.cell? ⟨w.heap.size, 5, none⟩ = some (.int .i64 (rw n 5)) := (hE.cells _ _ (by first | exact l0 | (simp; done) | (simp; omega))).trans (by first | exact k0_5 | (go_simp; done)); replace k1_0 : w1.cell? ⟨w.heap.size + 1, 0, none⟩ = some (.int .i64 (rw m 0)) := (hE.cells _ _ (by first | exact l1 | (simp; done) | (simp; omega))).trans (by first | exact k1_0 | (go_simp; done)); replace k1_1 : w1.cell? ⟨w.heap.size + 1, 1, none⟩ = some (.int .i64 (rw m 1)) := (hE.cells _ _ (by first | exact l1 | (simp; done) | (simp; omega))).trans (by first | exact k1_1 | (go_simp; done)); replace k1_2 : w1.cell? ⟨w.heap.size + 1, 2, none⟩ = some (.int .i64 (rw m 2)) := (hE.cells _ _ (by first | exact l1 | (simp; done) | (simp; omega))).trans (by first | exact k1_2 | (go_simp; done)); replace k1_3 : w1.cell? ⟨w.heap.size + 1, 3, none⟩ = some (.int .i64 (rw m 3)) := (hE.cells _ _ (by first | exact l1 | (simp; done) | (simp; omega))).trans (by first | exact k1_3 | (go_simp; done)); replace k1_4 : w1.cell? ⟨w.heap.size + 1, 4, none⟩ = some (.int .i64 (rw m 4)) := (hE.cells _ _ (by first | exact l1 | (simp; done) | (simp; omega))).trans (by first | exact k1_4 | (go_simp; done)); replace k1_5 : w1.cell? ⟨w.heap.size + 1, 5, none⟩ = some (.int .i64 (rw m 5)) := (hE.cells _ _ (by first | exact l1 | (simp; done) | (simp; omega))).trans (by first | exact k1_5 | (go_simp; done)); replace l0 : w.heap.size < w1.heap.size := Nat.lt_of_lt_of_le (by first | exact l0 | (simp; done) | (simp; omega)) hE.size; replace l1 : w.heap.size + 1 < w1.heap.size := Nat.lt_of_lt_of_le (by first | exact l1 | (simp; done) | (simp; omega)) hE.size) | ((go_at_call 87; refine (HO.out _).mono ?_; rintro e w1 ⟨v0, rfl, hE, ho⟩; replace k0_0 : w1.cell? ⟨w.heap.size, 0, none⟩ = some (.int .i64 (rw n 0)) := (hE.cells _ _ (by first | exact l0 | (simp; done) | (simp; omega))).trans (by first | exact k0_0 | (go_simp; done)); replace k0_1 : w1.cell? ⟨w.heap.size, 1, none⟩ = some (.int .i64 (rw n 1)) := (hE.cells _ _ (by first | exact l0 | (simp; done) | (simp; omega))).trans (by first | exact k0_1 | (go_simp; done)); replace k0_2 : w1.cell? ⟨w.heap.size, 2, none⟩ = some (.int .i64 (rw n 2)) := (hE.cells _ _ (by first | exact l0 | (simp; done) | (simp; omega))).trans (by first | exact k0_2 | (go_simp; done)); replace k0_3 : w1.cell? ⟨w.heap.size, 3, none⟩ = some (.int .i64 (rw n 3)) := (hE.cells _ _ (by first | exact l0 | (simp; done) | (simp; omega))).trans (by first | exact k0_3 | (go_simp; done)); replace k0_4 : w1.cell? ⟨w.heap.size, 4, none⟩ = some (.int .i64 (rw n 4)) := (hE.cells _ _ (by first | exact l0 | (simp; done) | (simp; omega))).trans (by first | exact k0_4 | (go_simp; done)); replace k0_5 : w1.cell? ⟨w.heap.size, 5, none⟩ = some (.int .i64 (rw n 5)) := (hE.cells _ _ (by first | exact l0 | (simp; done) | (simp; omega))).trans (by first | exact k0_5 | (go_simp; done)); replace k1_0 : w1.cell? ⟨w.heap.size + 1, 0, none⟩ = some (.int .i64 (rw m 0)) := (hE.cells _ _ (by first | exact l1 | (simp; done) | (simp; omega))).trans (by first | exact k1_0 | (go_simp; done)); replace k1_1 : w1.cell? ⟨w.heap.size + 1, 1, none⟩ = some (.int .i64 (rw m 1)) := (hE.cells _ _ (by first | exact l1 | (simp; done) | (simp; omega))).trans (by first | exact k1_1 | (go_simp; done)); replace k1_2 : w1.cell? ⟨w.heap.size + 1, 2, none⟩ = some (.int .i64 (rw m 2)) := (hE.cells _ _ (by first | exact l1 | (simp; done) | (simp; omega))).trans (by first | exact k1_2 | (go_simp; done)); replace k1_3 : w1.cell? ⟨w.heap.size + 1, 3, none⟩ = some (.int .i64 (rw m 3)) := (hE.cells _ _ (by first | exact l1 | (simp; done) | (simp; omega))).trans (by first | exact k1_3 | (go_simp; done)); replace k1_4 : w1.cell? ⟨w.heap.size + 1, 4, none⟩ = some (.int .i64 (rw m 4)) := (hE.cells _ _ (by first | exact l1 | (simp; done) | (simp; omega))).trans (by first | exact k1_4 | (go_simp; done)); replace k1_5 : w1.cell? ⟨w.heap.size + 1, 5, none⟩ = some (.int .i64 (rw m 5)) := (hE.cells _ _ (by first | exact l1 | (simp; done) | (simp; omega))).trans (by first | exact k1_5 | (go_simp; done)); replace l0 : w.heap.size < w1.heap.size := Nat.lt_of_lt_of_le (by first | exact l0 | (simp; done) | (simp; omega)) hE.size; replace l1 : w.heap.size + 1 < w1.heap.size := Nat.lt_of_lt_of_le (by first | exact l1 | (simp; done) | (simp; omega)) hE.size; have HV := Lib.hid ho; clear ho); obtain ⟨wa, rfl⟩ : ∃ x, x = w1 := ⟨_, rfl⟩))
  have hxa : Ext w wa := (by (repeat' (first | (with_reducible exact Ext.refl _) | (with_reducible assumption) | (with_reducible refine Ext.alloc ?_ _) | (with_reducible refine Ext.drew ?_) | (with_reducible refine Ext.drewN ?_ _) | (with_reducible refine Ext.setCell ?_ ?_ _) | (with_reducible refine Ext.trans ?_ (by assumption)))) <;> (first | (with_reducible assumption) | omega | (simp; done) | (simp; omega)))
  have hsz := hxa.size
  go_loopw [10, 11] (fun u bl wr => ∃ j : Nat, j ≤ N ∧ bl = .int .u64 ((gB (pr6 n) L j).1 : Nat) ∧ Ext wa wr ∧ wa.heap.size < wr.heap.size ∧ wr.ownsRow wa.heap.size 3 1 u j (ints (gB (pr6 n) L j).2)) (fun u _ _ => N - slLen u)
  case atStart => exact ⟨0, Nat.zero_le _, by rw [gB_0]; rfl, (by (repeat' (first | (with_reducible exact Ext.refl _) | (with_reducible assumption) | (with_reducible refine Ext.alloc ?_ _) | (with_reducible refine Ext.drew ?_) | (with_reducible refine Ext.drewN ?_ _) | (with_reducible refine Ext.setCell ?_ ?_ _) | (with_reducible refine Ext.trans ?_ (by assumption)))) <;> (first | (with_reducible assumption) | omega | (simp; done) | (simp; omega))), by simp, by rw [gB_0]; exact own_empty _ 3 1 _ (Nat.le_refl _) rfl⟩
  case round =>
    obtain ⟨j, hj, rfl, hx, hz, ho⟩ := hrel
    obtain ⟨wo, rfl⟩ : ∃ wo : World, wo = wr := ⟨_, rfl⟩
    obtain ⟨uo, uc, rfl, _⟩ := own_shape ho
    have HU := Lib.hid ho
    clear ho
    rcases Nat.lt_or_ge j N with hlt | hge
    · have hne := HI.out j hlt
      have hbl := HZ.out j
      have hL0 := hN0 (by omega)
      have HB1 := Lib.hid (gB_1 (pr6 n) L j)
      obtain ⟨b, hb⟩ : ∃ b, b = (gB (pr6 n) L j).1 := ⟨_, rfl⟩
      rw [← hb] at hne hbl HB1 ⊢
      have HBB := Lib.hid hb
      clear hb
      have hbm : ((b : Int) != (m : Int)) = true := by rw [bne_iff_ne]; omega
      have HGI := Lib.hid (gi_bd (pr6 n) b L)
      have HGF := Lib.hid (gi_facts (pr6 n) b L L.length hL0)
      have HV1 := Lib.hid (own_ext HV.out hx)
      obtain ⟨vo, vc, rfl, vsh⟩ := own_shape HV.out
      go_wp2
      go_loopw [12, 13, 41] (fun bs mo i wr => ∃ q kb : Nat, q ≤ L.length ∧ i = .int .i64 q ∧ mo = .int .i64 (gi (pr6 n) b L q).2 ∧ bs = .int .i64 (kb : Int) ∧ (0 < q → L[(gi (pr6 n) b L q).1]? = some kb) ∧ Ext wo wr) (fun _ _ i _ => L.length - (intOf i).toNat)
      case atStart => exact ⟨0, 0, Nat.zero_le _, rfl, by rw [gi_0], rfl, fun h => absurd h (Nat.lt_irrefl 0), (by (repeat' (first | (with_reducible exact Ext.refl _) | (with_reducible assumption) | (with_reducible refine Ext.alloc ?_ _) | (with_reducible refine Ext.drew ?_) | (with_reducible refine Ext.drewN ?_ _) | (with_reducible refine Ext.setCell ?_ ?_ _) | (with_reducible refine Ext.trans ?_ (by assumption)))) <;> (first | (with_reducible assumption) | omega | (simp; done) | (simp; omega)))⟩
      case round =>
        obtain ⟨q, kb, hq, rfl, rfl, rfl, hbs, hxq⟩ := hrel
        have HBS := Lib.hid hbs
        clear hbs
        obtain ⟨wi, rfl⟩ : ∃ wi : World, wi = wr := ⟨_, rfl⟩
        by_cases hlq : q < L.length
        · obtain ⟨vb, rfl, _, hvb⟩ := vsh (by omega)
          obtain ⟨k, hk⟩ : ∃ k, L[q]? = some k := ⟨L[q], List.getElem?_eq_getElem hlq⟩
          have hk36 := HG.out q k hk
          have c1 := ((own_ext HV1.out hxq).cellAt q (by omega)).trans (ints_get L q k hk)
          have HP := Lib.hid (show ∀ w, Calls Try.prog 98 #[.int .u64 (n : Int), .int .i64 (k : Int)] w fun e w' => e = .returned (.int .u64 (pr6 n k : Nat)) ∧ Ext w w' from fun w => pressed_any n k hn hk36 w)
          have e1 := andn64s (pr6_lt n k) hbl
          rw [show pr6 n k &&& cmp b = mns (pr6 n k) b from rfl] at e1
          have HS := Lib.hid (fun w => size_n (mns (pr6 n k) b) (mns_lt _ (pr6_lt n k)) w)
          have HGq := gi_1 (pr6 n) b L q
          rw [get_bang hk] at HGq
          have hbd := HGI.out q
          by_cases hc : (gi (pr6 n) b L q).2 < (cnt (mns (pr6 n k) b) : Nat)
          · rw [if_pos hc] at HGq
            have HGh := Lib.hid HGq
            have HKB := Lib.hid (show L[(gi (pr6 n) b L (q + 1)).1]? = some k by rw [HGq]; exact hk)
            clear HGq hk
            generalize cnt (mns (pr6 n k) b) = c at *
            go_wp2_with (first | (go_at_call 98; refine (HP.out _).mono ?_; rintro e w1 ⟨rfl, hE⟩) | (go_at_call 122; refine (HS.out _).mono ?_; rintro e w' ⟨rfl, rfl⟩))
            (first | exact ⟨⟨q + 1, k, by omega, by go_num, by rw [HGh.out], rfl, fun _ => HKB.out, (by (repeat' (first | (with_reducible exact Ext.refl _) | (with_reducible assumption) | (with_reducible refine Ext.alloc ?_ _) | (with_reducible refine Ext.drew ?_) | (with_reducible refine Ext.drewN ?_ _) | (with_reducible refine Ext.setCell ?_ ?_ _) | (with_reducible refine Ext.trans ?_ (by assumption)))) <;> (first | (with_reducible assumption) | omega | (simp; done) | (simp; omega)))⟩, by simp [intOf]; omega⟩ | (refine ⟨?_, by simp [intOf]; omega⟩; (repeat apply Exists.intro); exact ⟨⟨q + 1, k, by omega, by go_num, by rw [HGh.out], rfl, fun _ => HKB.out, (by (repeat' (first | (with_reducible exact Ext.refl _) | (with_reducible assumption) | (with_reducible refine Ext.alloc ?_ _) | (with_reducible refine Ext.drew ?_) | (with_reducible refine Ext.drewN ?_ _) | (with_reducible refine Ext.setCell ?_ ?_ _) | (with_reducible refine Ext.trans ?_ (by assumption)))) <;> (first | (with_reducible assumption) | omega | (simp; done) | (simp; omega)))⟩, rfl⟩))
          · rw [if_neg hc] at HGq
            have hq0 : 0 < q := by
              rcases Nat.eq_zero_or_pos q with rfl | h
              · rw [gi_0] at hc
                exact absurd (show (-1 : Int) < _ by omega) hc
              · exact h
            have HGh := Lib.hid HGq
            have HKB := Lib.hid (show L[(gi (pr6 n) b L (q + 1)).1]? = some kb by rw [HGq]; exact HBS.out hq0)
            clear HGq hk
            generalize cnt (mns (pr6 n k) b) = c at *
            go_wp2_with (first | (go_at_call 98; refine (HP.out _).mono ?_; rintro e w1 ⟨rfl, hE⟩) | (go_at_call 122; refine (HS.out _).mono ?_; rintro e w' ⟨rfl, rfl⟩))
            (first | exact ⟨⟨q + 1, kb, by omega, by go_num, by rw [HGh.out], rfl, fun _ => HKB.out, (by (repeat' (first | (with_reducible exact Ext.refl _) | (with_reducible assumption) | (with_reducible refine Ext.alloc ?_ _) | (with_reducible refine Ext.drew ?_) | (with_reducible refine Ext.drewN ?_ _) | (with_reducible refine Ext.setCell ?_ ?_ _) | (with_reducible refine Ext.trans ?_ (by assumption)))) <;> (first | (with_reducible assumption) | omega | (simp; done) | (simp; omega)))⟩, by simp [intOf]; omega⟩ | (refine ⟨?_, by simp [intOf]; omega⟩; (repeat apply Exists.intro); exact ⟨⟨q + 1, kb, by omega, by go_num, by rw [HGh.out], rfl, fun _ => HKB.out, (by (repeat' (first | (with_reducible exact Ext.refl _) | (with_reducible assumption) | (with_reducible refine Ext.alloc ?_ _) | (with_reducible refine Ext.drew ?_) | (with_reducible refine Ext.drewN ?_ _) | (with_reducible refine Ext.setCell ?_ ?_ _) | (with_reducible refine Ext.trans ?_ (by assumption)))) <;> (first | (with_reducible assumption) | omega | (simp; done) | (simp; omega)))⟩, rfl⟩))
        · obtain rfl : q = L.length := by omega
          have hkb := HBS.out hL0
          have hk36 : kb < 36 := HG.out _ _ hkb
          have hkk := get_bang hkb
          rw [hkk] at HB1
          clear hkb hkk
          obtain ⟨k, rfl⟩ : ∃ k, k = kb := ⟨_, rfl⟩
          have HB2 := Lib.hid (HB1.out.symm)
          have HP := Lib.hid (show ∀ w, Calls Try.prog 98 #[.int .u64 (n : Int), .int .i64 (k : Int)] w fun e w' => e = .returned (.int .u64 (pr6 n k : Nat)) ∧ Ext w w' from fun w => pressed_any n k hn hk36 w)
          have e64 := or64 hbl (pr6_lt n k)
          have HU1 := Lib.hid (own_ext HU.out hxq)
          have hxw := hx.trans hxq
          have hzi : wa.heap.size < wi.heap.size := Nat.lt_of_lt_of_le hz hxq.size
          go_wp2_with (first | (at_builtin; refine wpList_append_own _ rfl _ _ 81 rfl wa.heap.size 3 i0 (.int .i64 0) 1 8 Try.underlying81 hi iz0 iz1 iz2 rfl (by decide) _ _ _ rfl (HU1.out.alloc _) ⟨_, 0, none⟩ 1 1 [.int .i64 (k : Int)] rfl rfl one_cell (by simp [Value.oneCell']) (by unfold maxLen; omega) (by omega) (by simp; omega) ?_; intro v1 w2 hown hgrow _) | (go_at_call 98; refine (HP.out _).mono ?_; rintro e w1 ⟨rfl, hE⟩))
          have HPS := Lib.hid (own_push hxw (Nat.le_refl _) HU1.out hgrow)
          have hs2 := hgrow.size
          have hs3 := hE.size
          obtain ⟨v1o, v1c, rfl, _⟩ := own_shape hown
          have HF := Lib.hid (show _ ∧ _ ∧ _ from ⟨HPS.out.1.trans hE, (by simp at hs2; omega : wa.heap.size < w1.heap.size), (by rw [← HB2.out, ints_append]; exact own_ext hown hE : w1.ownsRow wa.heap.size 3 1 (.slice v1o (j + 1) v1c) (j + 1) (ints (gB (pr6 n) L (j + 1)).2))⟩)
          refine ⟨?_, by simp [slLen]; omega⟩
          exact ⟨j + 1, by omega, by rw [← HB2.out], HF.out⟩
    · obtain rfl : j = N := by omega
      have hbe := HE.out
      rw [hbe]
      go_wp2_with (go_at_call 110; refine (HCO.out _ _ _ HU.out).mono ?_; rintro e w1 ⟨u, rfl, hE, ho⟩)
      go_returns
      exact ⟨_, rfl, (by (repeat' (first | (with_reducible exact Ext.refl _) | (with_reducible assumption) | (with_reducible refine Ext.alloc ?_ _) | (with_reducible refine Ext.drew ?_) | (with_reducible refine Ext.drewN ?_ _) | (with_reducible refine Ext.setCell ?_ ?_ _) | (with_reducible refine Ext.trans ?_ (by assumption)))) <;> (first | (with_reducible assumption) | omega | (simp; done) | (simp; omega))), own_mono ho (by have := hx.size; omega)⟩
end Go.Proofs.Ytppgdppglnfpkaa
