/- Prn: contracts of functions, and lemmas, for this seat. Conditions: as each states. -/
import Derived.Test.YtadnfocbfabjnaaPict
import Derived.Test.YtadnfocbfabjnaaSpecB
import Derived.Test.YtadnfocbfabjnaaRaw0
set_option linter.unusedVariables false
set_option maxRecDepth 100000
set_option maxHeartbeats 1000000
namespace Go.Proofs.Ytadnfocbfabjnaa
open Go Go.RowKit Instr
/-! prints: nine numbers: the ink, six rows, a cell -/
theorem zeros9 : (#[.int .i64 0, .int .i64 0, .int .i64 0, .int .i64 0, .int .i64 0, .int .i64 0, .int .i64 0, .int .i64 0, .int .i64 0] : Array Value) = av 9 (fun _ => 0) := by kernel_rfl
theorem pr_av (r : Nat → Int) : ((.agg #[.int .i64 (r 0), .int .i64 (r 1), .int .i64 (r 2), .int .i64 (r 3), .int .i64 (r 4), .int .i64 (r 5), .int .i64 (r 6), .int .i64 (r 7), .int .i64 (r 8)]) : Value) = .agg (av 9 r) := by kernel_rfl
theorem Big.new9 (w : World) (T : TypeId) {b : Nat} (hb : b = w.heap.size) : Big (w.alloc (.cells #[.int .i64 0, .int .i64 0, .int .i64 0, .int .i64 0, .int .i64 0, .int .i64 0, .int .i64 0, .int .i64 0, .int .i64 0] T)) b T 9 (fun _ => 0) := by
  rw [zeros9]; exact Big.new w T 9 _ hb
theorem sizePr : (Try.prog.info? 122).map (·.size) = some 9 := by kernel_rfl
theorem szPr (g : Nat → Int) : (Try.prog.info? 122).map (·.size) = some (av 9 g).size := by rw [av_size]; exact sizePr
theorem Big.loadPr {w : World} {b : Nat} {T : TypeId} {g : Nat → Int} (h : Big w b T 9 g) : (loadVar 122 ⟨b, 0, none⟩).run Try.prog w = .ok (.agg (av 9 g)) w :=
  run_loadVar_row w b T 122 (av 9 g) (0, 0) _ h Try.underlying122 rfl (by rw [av_size]; exact sizePr)
/-- is a print valid? -/
def prB (r : Nat → Int) : Bool := inR (r 0) 1 4 && (vs (fun k => r (k + 1)) && okC (r 7) (r 8))
theorem l8Print_any (r : Nat → Int) (w : World) : Calls Try.prog 198 #[(.agg #[.int .i64 (r 0), .int .i64 (r 1), .int .i64 (r 2), .int .i64 (r 3), .int .i64 (r 4), .int .i64 (r 5), .int .i64 (r 6), .int .i64 (r 7), .int .i64 (r 8)])] w fun e w' => e = .returned (.bool (prB r)) ∧ Ext w w' := by
  unfold prB
  have HI := Lib.hid (fun b (h : inR (r 0) 1 4 = b) w => l1In_is (r 0) 1 4 b h w)
  have HS := Lib.hid (show ∀ b, vs (fun k => r (k + 1)) = b → ∀ w, Calls Try.prog 106 #[.agg #[.int .i64 (r 1), .int .i64 (r 2), .int .i64 (r 3), .int .i64 (r 4), .int .i64 (r 5), .int .i64 (r 6)]] w fun e w' => e = .returned (.bool b) ∧ Ext w w' from fun b h w => l2Sheet_is (fun k => r (k + 1)) b h w)
  have HC := Lib.hid (fun b (h : okC (r 7) (r 8) = b) w => l2Cell_is (r 7) (r 8) b h w)
  cases h1 : inR (r 0) 1 4
  · have H1 := Lib.hid (HI.out _ h1)
    clear h1 HI HS HC
    skip
    go_enter Try.func198, Try.ntmps198
    go_wp2_with (go_at_call 126; refine (H1.out _).mono ?_; rintro e w' ⟨rfl, rfl⟩)
    go_returns
    exact ⟨rfl, (by (repeat' (first | (with_reducible exact Ext.refl _) | (with_reducible assumption) | (with_reducible refine Ext.alloc ?_ _) | (with_reducible refine Ext.drew ?_) | (with_reducible refine Ext.drewN ?_ _) | (with_reducible refine Ext.setCell ?_ ?_ _) | (with_reducible refine Ext.trans ?_ (by assumption)))) <;> (first | (with_reducible assumption) | omega | (simp; done) | (simp; omega)))⟩
  · have H1 := Lib.hid (HI.out _ h1)
    cases h2 : vs (fun k => r (k + 1))
    · have H2 := Lib.hid (HS.out _ h2)
      clear h1 h2 HI HS HC
      skip
      go_enter Try.func198, Try.ntmps198
      go_wp2_with (first | (go_at_call 126; refine (H1.out _).mono ?_; rintro e w' ⟨rfl, rfl⟩) | (go_at_call 106; refine (H2.out _).mono ?_; rintro e w1 ⟨rfl, hE⟩; replace k0_0 : w1.cell? ⟨w.heap.size, 0, none⟩ = some (.int .i64 (r 0)) := (hE.cells _ _ (by first | exact l0 | (simp; done) | (simp; omega))).trans (by first | exact k0_0 | (go_simp; done)); replace k0_1 : w1.cell? ⟨w.heap.size, 1, none⟩ = some (.int .i64 (r 1)) := (hE.cells _ _ (by first | exact l0 | (simp; done) | (simp; omega))).trans (by first | exact k0_1 | (go_simp; done)); replace k0_2 : w1.cell? ⟨w.heap.size, 2, none⟩ = some (.int .i64 (r 2)) := (hE.cells _ _ (by first | exact l0 | (simp; done) | (simp; omega))).trans (by first | exact k0_2 | (go_simp; done)); replace k0_3 : w1.cell? ⟨w.heap.size, 3, none⟩ = some (.int .i64 (r 3)) := (hE.cells _ _ (by first | exact l0 | (simp; done) | (simp; omega))).trans (by first | exact k0_3 | (go_simp; done)); replace k0_4 : w1.cell? ⟨w.heap.size, 4, none⟩ = some (.int .i64 (r 4)) := (hE.cells _ _ (by first | exact l0 | (simp; done) | (simp; omega))).trans (by first | exact k0_4 | (go_simp; done)); replace k0_5 : w1.cell? ⟨w.heap.size, 5, none⟩ = some (.int .i64 (r 5)) := (hE.cells _ _ (by first | exact l0 | (simp; done) | (simp; omega))).trans (by first | exact k0_5 | (go_simp; done)); replace k0_6 : w1.cell? ⟨w.heap.size, 6, none⟩ = some (.int .i64 (r 6)) := (hE.cells _ _ (by first | exact l0 | (simp; done) | (simp; omega))).trans (by first | exact k0_6 | (go_simp; done)); replace k0_7 : w1.cell? ⟨w.heap.size, 7, none⟩ = some (.int .i64 (r 7)) := (hE.cells _ _ (by first | exact l0 | (simp; done) | (simp; omega))).trans (by first | exact k0_7 | (go_simp; done)); replace k0_8 : w1.cell? ⟨w.heap.size, 8, none⟩ = some (.int .i64 (r 8)) := (hE.cells _ _ (by first | exact l0 | (simp; done) | (simp; omega))).trans (by first | exact k0_8 | (go_simp; done)); replace l0 : w.heap.size < w1.heap.size := Nat.lt_of_lt_of_le (by first | exact l0 | (simp; done) | (simp; omega)) hE.size))
      go_returns
      exact ⟨rfl, (by (repeat' (first | (with_reducible exact Ext.refl _) | (with_reducible assumption) | (with_reducible refine Ext.alloc ?_ _) | (with_reducible refine Ext.drew ?_) | (with_reducible refine Ext.drewN ?_ _) | (with_reducible refine Ext.setCell ?_ ?_ _) | (with_reducible refine Ext.trans ?_ (by assumption)))) <;> (first | (with_reducible assumption) | omega | (simp; done) | (simp; omega)))⟩
    · have H2 := Lib.hid (HS.out _ h2)
      have H3 := Lib.hid (HC.out _ rfl)
      clear h1 h2 HI HS HC
      generalize okC (r 7) (r 8) = c at *
      skip
      go_enter Try.func198, Try.ntmps198
      go_wp2_with (first | (go_at_call 126; refine (H1.out _).mono ?_; rintro e w' ⟨rfl, rfl⟩) | (go_at_call 106; refine (H2.out _).mono ?_; rintro e w1 ⟨rfl, hE⟩; replace k0_0 : w1.cell? ⟨w.heap.size, 0, none⟩ = some (.int .i64 (r 0)) := (hE.cells _ _ (by first | exact l0 | (simp; done) | (simp; omega))).trans (by first | exact k0_0 | (go_simp; done)); replace k0_1 : w1.cell? ⟨w.heap.size, 1, none⟩ = some (.int .i64 (r 1)) := (hE.cells _ _ (by first | exact l0 | (simp; done) | (simp; omega))).trans (by first | exact k0_1 | (go_simp; done)); replace k0_2 : w1.cell? ⟨w.heap.size, 2, none⟩ = some (.int .i64 (r 2)) := (hE.cells _ _ (by first | exact l0 | (simp; done) | (simp; omega))).trans (by first | exact k0_2 | (go_simp; done)); replace k0_3 : w1.cell? ⟨w.heap.size, 3, none⟩ = some (.int .i64 (r 3)) := (hE.cells _ _ (by first | exact l0 | (simp; done) | (simp; omega))).trans (by first | exact k0_3 | (go_simp; done)); replace k0_4 : w1.cell? ⟨w.heap.size, 4, none⟩ = some (.int .i64 (r 4)) := (hE.cells _ _ (by first | exact l0 | (simp; done) | (simp; omega))).trans (by first | exact k0_4 | (go_simp; done)); replace k0_5 : w1.cell? ⟨w.heap.size, 5, none⟩ = some (.int .i64 (r 5)) := (hE.cells _ _ (by first | exact l0 | (simp; done) | (simp; omega))).trans (by first | exact k0_5 | (go_simp; done)); replace k0_6 : w1.cell? ⟨w.heap.size, 6, none⟩ = some (.int .i64 (r 6)) := (hE.cells _ _ (by first | exact l0 | (simp; done) | (simp; omega))).trans (by first | exact k0_6 | (go_simp; done)); replace k0_7 : w1.cell? ⟨w.heap.size, 7, none⟩ = some (.int .i64 (r 7)) := (hE.cells _ _ (by first | exact l0 | (simp; done) | (simp; omega))).trans (by first | exact k0_7 | (go_simp; done)); replace k0_8 : w1.cell? ⟨w.heap.size, 8, none⟩ = some (.int .i64 (r 8)) := (hE.cells _ _ (by first | exact l0 | (simp; done) | (simp; omega))).trans (by first | exact k0_8 | (go_simp; done)); replace l0 : w.heap.size < w1.heap.size := Nat.lt_of_lt_of_le (by first | exact l0 | (simp; done) | (simp; omega)) hE.size) | (go_at_call 228; refine (H3.out _).mono ?_; rintro e w1 ⟨rfl, hE⟩; replace k0_0 : w1.cell? ⟨w.heap.size, 0, none⟩ = some (.int .i64 (r 0)) := (hE.cells _ _ (by first | exact l0 | (simp; done) | (simp; omega))).trans (by first | exact k0_0 | (go_simp; done)); replace k0_1 : w1.cell? ⟨w.heap.size, 1, none⟩ = some (.int .i64 (r 1)) := (hE.cells _ _ (by first | exact l0 | (simp; done) | (simp; omega))).trans (by first | exact k0_1 | (go_simp; done)); replace k0_2 : w1.cell? ⟨w.heap.size, 2, none⟩ = some (.int .i64 (r 2)) := (hE.cells _ _ (by first | exact l0 | (simp; done) | (simp; omega))).trans (by first | exact k0_2 | (go_simp; done)); replace k0_3 : w1.cell? ⟨w.heap.size, 3, none⟩ = some (.int .i64 (r 3)) := (hE.cells _ _ (by first | exact l0 | (simp; done) | (simp; omega))).trans (by first | exact k0_3 | (go_simp; done)); replace k0_4 : w1.cell? ⟨w.heap.size, 4, none⟩ = some (.int .i64 (r 4)) := (hE.cells _ _ (by first | exact l0 | (simp; done) | (simp; omega))).trans (by first | exact k0_4 | (go_simp; done)); replace k0_5 : w1.cell? ⟨w.heap.size, 5, none⟩ = some (.int .i64 (r 5)) := (hE.cells _ _ (by first | exact l0 | (simp; done) | (simp; omega))).trans (by first | exact k0_5 | (go_simp; done)); replace k0_6 : w1.cell? ⟨w.heap.size, 6, none⟩ = some (.int .i64 (r 6)) := (hE.cells _ _ (by first | exact l0 | (simp; done) | (simp; omega))).trans (by first | exact k0_6 | (go_simp; done)); replace k0_7 : w1.cell? ⟨w.heap.size, 7, none⟩ = some (.int .i64 (r 7)) := (hE.cells _ _ (by first | exact l0 | (simp; done) | (simp; omega))).trans (by first | exact k0_7 | (go_simp; done)); replace k0_8 : w1.cell? ⟨w.heap.size, 8, none⟩ = some (.int .i64 (r 8)) := (hE.cells _ _ (by first | exact l0 | (simp; done) | (simp; omega))).trans (by first | exact k0_8 | (go_simp; done)); replace l0 : w.heap.size < w1.heap.size := Nat.lt_of_lt_of_le (by first | exact l0 | (simp; done) | (simp; omega)) hE.size))
      go_returns
      exact ⟨rfl, (by (repeat' (first | (with_reducible exact Ext.refl _) | (with_reducible assumption) | (with_reducible refine Ext.alloc ?_ _) | (with_reducible refine Ext.drew ?_) | (with_reducible refine Ext.drewN ?_ _) | (with_reducible refine Ext.setCell ?_ ?_ _) | (with_reducible refine Ext.trans ?_ (by assumption)))) <;> (first | (with_reducible assumption) | omega | (simp; done) | (simp; omega)))⟩
theorem IsSheet_is (r : Nat → Int) (b : Bool) (h : vs r = b) (w : World) : Calls Try.prog 157 #[(.agg #[.int .i64 (r 0), .int .i64 (r 1), .int .i64 (r 2), .int .i64 (r 3), .int .i64 (r 4), .int .i64 (r 5)])] w fun e w' => e = .returned (.bool b) ∧ Ext w w' := by
  have H := Lib.hid (fun w => setOf_is r b h w)
  clear h
  generalize setN r = a at *
  skip
  go_enter Try.func157, Try.ntmps157
  go_wp2_with (go_at_call 108; refine (H.out _).mono ?_; rintro e w1 ⟨rfl, hE⟩; replace k0_0 : w1.cell? ⟨w.heap.size, 0, none⟩ = some (.int .i64 (r 0)) := (hE.cells _ _ (by first | exact l0 | (simp; done) | (simp; omega))).trans (by first | exact k0_0 | (go_simp; done)); replace k0_1 : w1.cell? ⟨w.heap.size, 1, none⟩ = some (.int .i64 (r 1)) := (hE.cells _ _ (by first | exact l0 | (simp; done) | (simp; omega))).trans (by first | exact k0_1 | (go_simp; done)); replace k0_2 : w1.cell? ⟨w.heap.size, 2, none⟩ = some (.int .i64 (r 2)) := (hE.cells _ _ (by first | exact l0 | (simp; done) | (simp; omega))).trans (by first | exact k0_2 | (go_simp; done)); replace k0_3 : w1.cell? ⟨w.heap.size, 3, none⟩ = some (.int .i64 (r 3)) := (hE.cells _ _ (by first | exact l0 | (simp; done) | (simp; omega))).trans (by first | exact k0_3 | (go_simp; done)); replace k0_4 : w1.cell? ⟨w.heap.size, 4, none⟩ = some (.int .i64 (r 4)) := (hE.cells _ _ (by first | exact l0 | (simp; done) | (simp; omega))).trans (by first | exact k0_4 | (go_simp; done)); replace k0_5 : w1.cell? ⟨w.heap.size, 5, none⟩ = some (.int .i64 (r 5)) := (hE.cells _ _ (by first | exact l0 | (simp; done) | (simp; omega))).trans (by first | exact k0_5 | (go_simp; done)); replace l0 : w.heap.size < w1.heap.size := Nat.lt_of_lt_of_le (by first | exact l0 | (simp; done) | (simp; omega)) hE.size)
  go_returns
  exact ⟨rfl, (by (repeat' (first | (with_reducible exact Ext.refl _) | (with_reducible assumption) | (with_reducible refine Ext.alloc ?_ _) | (with_reducible refine Ext.drew ?_) | (with_reducible refine Ext.drewN ?_ _) | (with_reducible refine Ext.setCell ?_ ?_ _) | (with_reducible refine Ext.trans ?_ (by assumption)))) <;> (first | (with_reducible assumption) | omega | (simp; done) | (simp; omega)))⟩
theorem IsPrint_any (r : Nat → Int) (w : World) : Calls Try.prog 201 #[(.agg #[.int .i64 (r 0), .int .i64 (r 1), .int .i64 (r 2), .int .i64 (r 3), .int .i64 (r 4), .int .i64 (r 5), .int .i64 (r 6), .int .i64 (r 7), .int .i64 (r 8)])] w fun e w' => e = .returned (.bool (prB r)) ∧ Ext w w' := by
  unfold prB
  have HS := Lib.hid (show ∀ b, vs (fun k => r (k + 1)) = b → ∀ w, Calls Try.prog 157 #[.agg #[.int .i64 (r 1), .int .i64 (r 2), .int .i64 (r 3), .int .i64 (r 4), .int .i64 (r 5), .int .i64 (r 6)]] w fun e w' => e = .returned (.bool b) ∧ Ext w w' from fun b h w => IsSheet_is (fun k => r (k + 1)) b h w)
  have HC := Lib.hid (fun b (h : okC (r 7) (r 8) = b) w => isCell_is (r 7) (r 8) b h w)
  cases h1 : inR (r 0) 1 4
  · have hb : ¬ (1 ≤ r 0 ∧ r 0 ≤ 4) := fun hh => by rw [(inR_iff _ _ _).2 hh] at h1; cases h1
    clear h1 HS HC
    by_cases hc : 1 ≤ r 0
    · have hc4 : 4 < r 0 := by omega
      generalize r 0 = r0 at *
      skip
      go_enter Try.func201, Try.ntmps201
      go_wp2
      go_returns
      exact ⟨ret_bool (by first | (simp; done) | (simp; omega)), (by (repeat' (first | (with_reducible exact Ext.refl _) | (with_reducible assumption) | (with_reducible refine Ext.alloc ?_ _) | (with_reducible refine Ext.drew ?_) | (with_reducible refine Ext.drewN ?_ _) | (with_reducible refine Ext.setCell ?_ ?_ _) | (with_reducible refine Ext.trans ?_ (by assumption)))) <;> (first | (with_reducible assumption) | omega | (simp; done) | (simp; omega)))⟩
    · have hc1 : r 0 < 1 := by omega
      skip
      go_enter Try.func201, Try.ntmps201
      go_wp2
      go_returns
      exact ⟨ret_bool (by first | (simp; done) | (simp; omega)), (by (repeat' (first | (with_reducible exact Ext.refl _) | (with_reducible assumption) | (with_reducible refine Ext.alloc ?_ _) | (with_reducible refine Ext.drew ?_) | (with_reducible refine Ext.drewN ?_ _) | (with_reducible refine Ext.setCell ?_ ?_ _) | (with_reducible refine Ext.trans ?_ (by assumption)))) <;> (first | (with_reducible assumption) | omega | (simp; done) | (simp; omega)))⟩
  · obtain ⟨ha, hb⟩ := (inR_iff _ _ _).1 h1
    cases h2 : vs (fun k => r (k + 1))
    · have H2 := Lib.hid (HS.out _ h2)
      clear h1 h2 HS HC
      skip
      go_enter Try.func201, Try.ntmps201
      go_wp2_with ((go_at_call 157; refine (H2.out _).mono ?_; rintro e w1 ⟨rfl, hE⟩; replace k0_0 : w1.cell? ⟨w.heap.size, 0, none⟩ = some (.int .i64 (r 0)) := (hE.cells _ _ (by first | exact l0 | (simp; done) | (simp; omega))).trans (by first | exact k0_0 | (go_simp; done)); replace k0_1 : w1.cell? ⟨w.heap.size, 1, none⟩ = some (.int .i64 (r 1)) := (hE.cells _ _ (by first | exact l0 | (simp; done) | (simp; omega))).trans (by first | exact k0_1 | (go_simp; done)); replace k0_2 : w1.cell? ⟨w.heap.size, 2, none⟩ = some (.int .i64 (r 2)) := (hE.cells _ _ (by first | exact l0 | (simp; done) | (simp; omega))).trans (by first | exact k0_2 | (go_simp; done)); replace k0_3 : w1.cell? ⟨w.heap.size, 3, none⟩ = some (.int .i64 (r 3)) := (hE.cells _ _ (by first | exact l0 | (simp; done) | (simp; omega))).trans (by first | exact k0_3 | (go_simp; done)); replace k0_4 : w1.cell? ⟨w.heap.size, 4, none⟩ = some (.int .i64 (r 4)) := (hE.cells _ _ (by first | exact l0 | (simp; done) | (simp; omega))).trans (by first | exact k0_4 | (go_simp; done)); replace k0_5 : w1.cell? ⟨w.heap.size, 5, none⟩ = some (.int .i64 (r 5)) := (hE.cells _ _ (by first | exact l0 | (simp; done) | (simp; omega))).trans (by first | exact k0_5 | (go_simp; done)); replace k0_6 : w1.cell? ⟨w.heap.size, 6, none⟩ = some (.int .i64 (r 6)) := (hE.cells _ _ (by first | exact l0 | (simp; done) | (simp; omega))).trans (by first | exact k0_6 | (go_simp; done)); replace k0_7 : w1.cell? ⟨w.heap.size, 7, none⟩ = some (.int .i64 (r 7)) := (hE.cells _ _ (by first | exact l0 | (simp; done) | (simp; omega))).trans (by first | exact k0_7 | (go_simp; done)); replace k0_8 : w1.cell? ⟨w.heap.size, 8, none⟩ = some (.int .i64 (r 8)) := (hE.cells _ _ (by first | exact l0 | (simp; done) | (simp; omega))).trans (by first | exact k0_8 | (go_simp; done)); replace l0 : w.heap.size < w1.heap.size := Nat.lt_of_lt_of_le (by first | exact l0 | (simp; done) | (simp; omega)) hE.size))
      go_returns
      exact ⟨rfl, (by (repeat' (first | (with_reducible exact Ext.refl _) | (with_reducible assumption) | (with_reducible refine Ext.alloc ?_ _) | (with_reducible refine Ext.drew ?_) | (with_reducible refine Ext.drewN ?_ _) | (with_reducible refine Ext.setCell ?_ ?_ _) | (with_reducible refine Ext.trans ?_ (by assumption)))) <;> (first | (with_reducible assumption) | omega | (simp; done) | (simp; omega)))⟩
    · have H2 := Lib.hid (HS.out _ h2)
      have H3 := Lib.hid (HC.out _ rfl)
      clear h1 h2 HS HC
      generalize okC (r 7) (r 8) = c at *
      skip
      go_enter Try.func201, Try.ntmps201
      go_wp2_with (first | (go_at_call 157; refine (H2.out _).mono ?_; rintro e w1 ⟨rfl, hE⟩; replace k0_0 : w1.cell? ⟨w.heap.size, 0, none⟩ = some (.int .i64 (r 0)) := (hE.cells _ _ (by first | exact l0 | (simp; done) | (simp; omega))).trans (by first | exact k0_0 | (go_simp; done)); replace k0_1 : w1.cell? ⟨w.heap.size, 1, none⟩ = some (.int .i64 (r 1)) := (hE.cells _ _ (by first | exact l0 | (simp; done) | (simp; omega))).trans (by first | exact k0_1 | (go_simp; done)); replace k0_2 : w1.cell? ⟨w.heap.size, 2, none⟩ = some (.int .i64 (r 2)) := (hE.cells _ _ (by first | exact l0 | (simp; done) | (simp; omega))).trans (by first | exact k0_2 | (go_simp; done)); replace k0_3 : w1.cell? ⟨w.heap.size, 3, none⟩ = some (.int .i64 (r 3)) := (hE.cells _ _ (by first | exact l0 | (simp; done) | (simp; omega))).trans (by first | exact k0_3 | (go_simp; done)); replace k0_4 : w1.cell? ⟨w.heap.size, 4, none⟩ = some (.int .i64 (r 4)) := (hE.cells _ _ (by first | exact l0 | (simp; done) | (simp; omega))).trans (by first | exact k0_4 | (go_simp; done)); replace k0_5 : w1.cell? ⟨w.heap.size, 5, none⟩ = some (.int .i64 (r 5)) := (hE.cells _ _ (by first | exact l0 | (simp; done) | (simp; omega))).trans (by first | exact k0_5 | (go_simp; done)); replace k0_6 : w1.cell? ⟨w.heap.size, 6, none⟩ = some (.int .i64 (r 6)) := (hE.cells _ _ (by first | exact l0 | (simp; done) | (simp; omega))).trans (by first | exact k0_6 | (go_simp; done)); replace k0_7 : w1.cell? ⟨w.heap.size, 7, none⟩ = some (.int .i64 (r 7)) := (hE.cells _ _ (by first | exact l0 | (simp; done) | (simp; omega))).trans (by first | exact k0_7 | (go_simp; done)); replace k0_8 : w1.cell? ⟨w.heap.size, 8, none⟩ = some (.int .i64 (r 8)) := (hE.cells _ _ (by first | exact l0 | (simp; done) | (simp; omega))).trans (by first | exact k0_8 | (go_simp; done)); replace l0 : w.heap.size < w1.heap.size := Nat.lt_of_lt_of_le (by first | exact l0 | (simp; done) | (simp; omega)) hE.size) | (go_at_call 231; refine (H3.out _).mono ?_; rintro e w1 ⟨rfl, hE⟩; replace k0_0 : w1.cell? ⟨w.heap.size, 0, none⟩ = some (.int .i64 (r 0)) := (hE.cells _ _ (by first | exact l0 | (simp; done) | (simp; omega))).trans (by first | exact k0_0 | (go_simp; done)); replace k0_1 : w1.cell? ⟨w.heap.size, 1, none⟩ = some (.int .i64 (r 1)) := (hE.cells _ _ (by first | exact l0 | (simp; done) | (simp; omega))).trans (by first | exact k0_1 | (go_simp; done)); replace k0_2 : w1.cell? ⟨w.heap.size, 2, none⟩ = some (.int .i64 (r 2)) := (hE.cells _ _ (by first | exact l0 | (simp; done) | (simp; omega))).trans (by first | exact k0_2 | (go_simp; done)); replace k0_3 : w1.cell? ⟨w.heap.size, 3, none⟩ = some (.int .i64 (r 3)) := (hE.cells _ _ (by first | exact l0 | (simp; done) | (simp; omega))).trans (by first | exact k0_3 | (go_simp; done)); replace k0_4 : w1.cell? ⟨w.heap.size, 4, none⟩ = some (.int .i64 (r 4)) := (hE.cells _ _ (by first | exact l0 | (simp; done) | (simp; omega))).trans (by first | exact k0_4 | (go_simp; done)); replace k0_5 : w1.cell? ⟨w.heap.size, 5, none⟩ = some (.int .i64 (r 5)) := (hE.cells _ _ (by first | exact l0 | (simp; done) | (simp; omega))).trans (by first | exact k0_5 | (go_simp; done)); replace k0_6 : w1.cell? ⟨w.heap.size, 6, none⟩ = some (.int .i64 (r 6)) := (hE.cells _ _ (by first | exact l0 | (simp; done) | (simp; omega))).trans (by first | exact k0_6 | (go_simp; done)); replace k0_7 : w1.cell? ⟨w.heap.size, 7, none⟩ = some (.int .i64 (r 7)) := (hE.cells _ _ (by first | exact l0 | (simp; done) | (simp; omega))).trans (by first | exact k0_7 | (go_simp; done)); replace k0_8 : w1.cell? ⟨w.heap.size, 8, none⟩ = some (.int .i64 (r 8)) := (hE.cells _ _ (by first | exact l0 | (simp; done) | (simp; omega))).trans (by first | exact k0_8 | (go_simp; done)); replace l0 : w.heap.size < w1.heap.size := Nat.lt_of_lt_of_le (by first | exact l0 | (simp; done) | (simp; omega)) hE.size))
      go_returns
      exact ⟨rfl, (by (repeat' (first | (with_reducible exact Ext.refl _) | (with_reducible assumption) | (with_reducible refine Ext.alloc ?_ _) | (with_reducible refine Ext.drew ?_) | (with_reducible refine Ext.drewN ?_ _) | (with_reducible refine Ext.setCell ?_ ?_ _) | (with_reducible refine Ext.trans ?_ (by assumption)))) <;> (first | (with_reducible assumption) | omega | (simp; done) | (simp; omega)))⟩
theorem sizeLPr : (Try.prog.info? 125).map (·.size) = some 9 := by kernel_rfl
theorem szLPr (g : Nat → Int) : (Try.prog.info? 125).map (·.size) = some (av 9 g).size := by rw [av_size]; exact sizeLPr
def prG (r : Nat → Int) (k : Nat) (i : Nat) : Int := if i < k then r i else 0
theorem prG_9 (r : Nat → Int) {i : Nat} (h : i < 9) : prG r 9 i = r i := by unfold prG; rw [if_pos h]
theorem prG_1 (r : Nat → Int) (i : Nat) : (if i = 0 then r 0 else 0) = prG r 1 i := by
  unfold prG
  by_cases h : i = 0
  · subst h; rfl
  · rw [if_neg h, if_neg (by omega)]
theorem prG_7 (r : Nat → Int) (i : Nat) : (if i = 6 then r 6 else if i = 5 then r 5 else if i = 4 then r 4 else if i = 3 then r 3 else if i = 2 then r 2 else if i = 1 then r 1 else prG r 1 i) = prG r 7 i := by
  unfold prG
  rcases Nat.lt_or_ge i 7 with h | h
  · match i, h with
    | 0, _ => rfl
    | 1, _ => rfl
    | 2, _ => rfl
    | 3, _ => rfl
    | 4, _ => rfl
    | 5, _ => rfl
    | 6, _ => rfl
  · rw [if_neg (by omega), if_neg (by omega), if_neg (by omega), if_neg (by omega), if_neg (by omega), if_neg (by omega), if_neg (by omega), if_neg (by omega)]
theorem prG_99 (r : Nat → Int) (i : Nat) : (if i = 8 then r 8 else if i = 7 then r 7 else prG r 7 i) = prG r 9 i := by
  unfold prG
  rcases Nat.lt_or_ge i 9 with h | h
  · match i, h with
    | 0, _ => rfl
    | 1, _ => rfl
    | 2, _ => rfl
    | 3, _ => rfl
    | 4, _ => rfl
    | 5, _ => rfl
    | 6, _ => rfl
    | 7, _ => rfl
    | 8, _ => rfl
  · rw [if_neg (by omega), if_neg (by omega), if_neg (by omega), if_neg (by omega)]
theorem resultsPr {fn : Func} {p : Tmp} {tmps : Array Value} {w : World} {b : Nat} {T : TypeId} {g : Nat → Int} (h : fn.results = #[.cell p 122]) (hp : tmps.getD p undef = .pointer (some ⟨b, 0, none⟩)) (hb : Big w b T 9 g) : (results fn tmps).run Try.prog w = .ok (.agg (av 9 g)) w :=
  ret_cell h hp hb.loadPr
theorem prG_all (r : Nat → Int) (i : Nat) (h : i < 9) : (if i = 8 then r 8 else if i = 7 then r 7 else if i = 6 then r 6 else if i = 5 then r 5 else if i = 4 then r 4 else if i = 3 then r 3 else if i = 2 then r 2 else if i = 1 then r 1 else if i = 0 then r 0 else 0) = r i := by
  match i, h with
  | 0, _ => rfl
  | 1, _ => rfl
  | 2, _ => rfl
  | 3, _ => rfl
  | 4, _ => rfl
  | 5, _ => rfl
  | 6, _ => rfl
  | 7, _ => rfl
  | 8, _ => rfl
theorem pr1_av (r : Nat → Int) : (#[.int .i64 (r 0), .int .i64 0, .int .i64 0, .int .i64 0, .int .i64 0, .int .i64 0, .int .i64 0, .int .i64 0, .int .i64 0] : Array Value) = av 9 (prG r 1) := by kernel_rfl
theorem Big.newPr1 (w : World) (T : TypeId) (r : Nat → Int) {b : Nat} (hb : b = w.heap.size) : Big (w.alloc (.cells #[.int .i64 (r 0), .int .i64 0, .int .i64 0, .int .i64 0, .int .i64 0, .int .i64 0, .int .i64 0, .int .i64 0, .int .i64 0] T)) b T 9 (prG r 1) := by
  rw [pr1_av]; exact Big.new w T 9 _ hb
theorem toPrint_any (r : Nat → Int) (w : World) : Calls Try.prog 132 #[(.agg #[.int .i64 (r 0), .int .i64 (r 1), .int .i64 (r 2), .int .i64 (r 3), .int .i64 (r 4), .int .i64 (r 5), .int .i64 (r 6), .int .i64 (r 7), .int .i64 (r 8)])] w fun e w' => e = .returned (.agg #[.int .i64 (r 0), .int .i64 (r 1), .int .i64 (r 2), .int .i64 (r 3), .int .i64 (r 4), .int .i64 (r 5), .int .i64 (r 6), .int .i64 (r 7), .int .i64 (r 8)]) ∧ Ext w w' := by
  have HS := Lib.hid (show ∀ w, Calls Try.prog 86 #[.agg #[.int .i64 (r 1), .int .i64 (r 2), .int .i64 (r 3), .int .i64 (r 4), .int .i64 (r 5), .int .i64 (r 6)]] w fun e w' => e = .returned (.agg #[.int .i64 (r 1), .int .i64 (r 2), .int .i64 (r 3), .int .i64 (r 4), .int .i64 (r 5), .int .i64 (r 6)]) ∧ Ext w w' from fun w => toSheet_any (fun k => r (k + 1)) w)
  have HC := Lib.hid (fun w => toIntA2_any (r 7) (r 8) w)
  skip
  go_enter Try.func132, Try.ntmps132
  go_wp2_with (first | ((go_at_call 86; refine (HS.out _).mono ?_; rintro e w1 ⟨rfl, hE⟩; replace k0_0 : w1.cell? ⟨w.heap.size, 0, none⟩ = some (.int .i64 (r 0)) := (hE.cells _ _ (by first | exact l0 | (simp; done) | (simp; omega))).trans (by first | exact k0_0 | (go_simp; done)); replace k0_1 : w1.cell? ⟨w.heap.size, 1, none⟩ = some (.int .i64 (r 1)) := (hE.cells _ _ (by first | exact l0 | (simp; done) | (simp; omega))).trans (by first | exact k0_1 | (go_simp; done)); replace k0_2 : w1.cell? ⟨w.heap.size, 2, none⟩ = some (.int .i64 (r 2)) := (hE.cells _ _ (by first | exact l0 | (simp; done) | (simp; omega))).trans (by first | exact k0_2 | (go_simp; done)); replace k0_3 : w1.cell? ⟨w.heap.size, 3, none⟩ = some (.int .i64 (r 3)) := (hE.cells _ _ (by first | exact l0 | (simp; done) | (simp; omega))).trans (by first | exact k0_3 | (go_simp; done)); replace k0_4 : w1.cell? ⟨w.heap.size, 4, none⟩ = some (.int .i64 (r 4)) := (hE.cells _ _ (by first | exact l0 | (simp; done) | (simp; omega))).trans (by first | exact k0_4 | (go_simp; done)); replace k0_5 : w1.cell? ⟨w.heap.size, 5, none⟩ = some (.int .i64 (r 5)) := (hE.cells _ _ (by first | exact l0 | (simp; done) | (simp; omega))).trans (by first | exact k0_5 | (go_simp; done)); replace k0_6 : w1.cell? ⟨w.heap.size, 6, none⟩ = some (.int .i64 (r 6)) := (hE.cells _ _ (by first | exact l0 | (simp; done) | (simp; omega))).trans (by first | exact k0_6 | (go_simp; done)); replace k0_7 : w1.cell? ⟨w.heap.size, 7, none⟩ = some (.int .i64 (r 7)) := (hE.cells _ _ (by first | exact l0 | (simp; done) | (simp; omega))).trans (by first | exact k0_7 | (go_simp; done)); replace k0_8 : w1.cell? ⟨w.heap.size, 8, none⟩ = some (.int .i64 (r 8)) := (hE.cells _ _ (by first | exact l0 | (simp; done) | (simp; omega))).trans (by first | exact k0_8 | (go_simp; done)); replace l0 : w.heap.size < w1.heap.size := Nat.lt_of_lt_of_le (by first | exact l0 | (simp; done) | (simp; omega)) hE.size); have HT := Lib.hid ((Big.newPr1 _ 122 r (b := w.heap.size + 2) (by first | (simp; done) | (simp; omega))).ext hE); have HR := Lib.hid (((Big.new9 _ 122 (b := w.heap.size + 1) (by simp)).ext ((Ext.refl _).alloc _)).ext hE); have t1 := HT.out.cell (j := 1) (by omega); have t2 := HT.out.cell (j := 2) (by omega); have t3 := HT.out.cell (j := 3) (by omega); have t4 := HT.out.cell (j := 4) (by omega); have t5 := HT.out.cell (j := 5) (by omega); have t6 := HT.out.cell (j := 6) (by omega); have f1 := HT.out.free 1; have f2 := HT.out.free 2; have f3 := HT.out.free 3; have f4 := HT.out.free 4; have f5 := HT.out.free 5; have f6 := HT.out.free 6; obtain ⟨wa, rfl⟩ : ∃ x, x = w1 := ⟨_, rfl⟩) | ((go_at_call 200; refine (HC.out _).mono ?_; rintro e w1 ⟨rfl, hE⟩); have HT2 := Lib.hid (((((((((HT.out.set 1 (r 1)).set 2 (r 2)).set 3 (r 3)).set 4 (r 4)).set 5 (r 5)).set 6 (r 6)).congr fun i _ => prG_7 r i)).ext hE); have HR2 := Lib.hid (((((((HR.out.far (by dsimp only; omega) _).far (by dsimp only; omega) _).far (by dsimp only; omega) _).far (by dsimp only; omega) _).far (by dsimp only; omega) _).far (by dsimp only; omega) _).ext hE); have u0 : w1.cell? ⟨w.heap.size + 2, 0, none⟩ = some (.int .i64 (r 0)) := HT2.out.cell (j := 0) (by omega); have u1 : w1.cell? ⟨w.heap.size + 2, 1, none⟩ = some (.int .i64 (r 1)) := HT2.out.cell (j := 1) (by omega); have u2 : w1.cell? ⟨w.heap.size + 2, 2, none⟩ = some (.int .i64 (r 2)) := HT2.out.cell (j := 2) (by omega); have u3 : w1.cell? ⟨w.heap.size + 2, 3, none⟩ = some (.int .i64 (r 3)) := HT2.out.cell (j := 3) (by omega); have u4 : w1.cell? ⟨w.heap.size + 2, 4, none⟩ = some (.int .i64 (r 4)) := HT2.out.cell (j := 4) (by omega); have u5 : w1.cell? ⟨w.heap.size + 2, 5, none⟩ = some (.int .i64 (r 5)) := HT2.out.cell (j := 5) (by omega); have u6 : w1.cell? ⟨w.heap.size + 2, 6, none⟩ = some (.int .i64 (r 6)) := HT2.out.cell (j := 6) (by omega); have u7 := HT2.out.cell (j := 7) (by omega); have u8 := HT2.out.cell (j := 8) (by omega); have g7 := HT2.out.free 7; have g8 := HT2.out.free 8; have v0 := HR2.out.cell (j := 0) (by omega); have v1 := HR2.out.cell (j := 1) (by omega); have v2 := HR2.out.cell (j := 2) (by omega); have v3 := HR2.out.cell (j := 3) (by omega); have v4 := HR2.out.cell (j := 4) (by omega); have v5 := HR2.out.cell (j := 5) (by omega); have v6 := HR2.out.cell (j := 6) (by omega); have v7 := HR2.out.cell (j := 7) (by omega); have v8 := HR2.out.cell (j := 8) (by omega); have h0 := HR2.out.free 0; have h1 := HR2.out.free 1; have h2 := HR2.out.free 2; have h3 := HR2.out.free 3; have h4 := HR2.out.free 4; have h5 := HR2.out.free 5; have h6 := HR2.out.free 6; have h7 := HR2.out.free 7; have h8 := HR2.out.free 8; have hxb : Ext w w1 := (by (repeat' (first | (with_reducible exact Ext.refl _) | (with_reducible assumption) | (with_reducible refine Ext.alloc ?_ _) | (with_reducible refine Ext.drew ?_) | (with_reducible refine Ext.drewN ?_ _) | (with_reducible refine Ext.setCell ?_ ?_ _) | (with_reducible refine Ext.trans ?_ (by assumption)))) <;> (first | (with_reducible assumption) | omega | (simp; done) | (simp; omega))); clear t1 t2 t3 t4 t5 t6 f1 f2 f3 f4 f5 f6; obtain ⟨wb, rfl⟩ : ∃ x, x = w1 := ⟨_, rfl⟩))
  exact bodyPost_ret (resultsPr rfl rfl ((((((((((((HR2.out.far (by dsimp only; omega) _).far (by dsimp only; omega) _).set 0 (r 0)).set 1 (r 1)).set 2 (r 2)).set 3 (r 3)).set 4 (r 4)).set 5 (r 5)).set 6 (r 6)).set 7 (r 7)).set 8 (r 8)).congr (fun i hi => prG_all r i hi))) rfl ⟨congrArg Ending.returned (pr_av r).symm, (by (repeat' (first | (with_reducible exact Ext.refl _) | (with_reducible assumption) | (with_reducible refine Ext.alloc ?_ _) | (with_reducible refine Ext.drew ?_) | (with_reducible refine Ext.drewN ?_ _) | (with_reducible refine Ext.setCell ?_ ?_ _) | (with_reducible refine Ext.trans ?_ (by assumption)))) <;> (first | (with_reducible assumption) | omega | (simp; done) | (simp; omega)))⟩
end Go.Proofs.Ytadnfocbfabjnaa
