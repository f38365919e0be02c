/- The statement FnExactCountKept is proved here. Conditions: none beyond those that the statement itself makes. -/
import Derived.Test.YtpkddnllfhihpaaRow
import Derived.Test.YtpkddnllfhihpaaCls
import Derived.Test.YtpkddnllfhihpaaConv
set_option linter.unusedVariables false
set_option maxRecDepth 100000
set_option maxHeartbeats 1000000
namespace Go.Proofs.Ytpkddnllfhihpaa
open Go Go.RowKit
theorem walk_FnExactCountKept (x_0 y_0 : Int) (bx_0 : -9223372036854775808 ≤ x_0 ∧ x_0 ≤ 9223372036854775807) (by_0 : -9223372036854775808 ≤ y_0 ∧ y_0 ≤ 9223372036854775807) (i_1 : Int) (b_1 : -9223372036854775808 ≤ i_1 ∧ i_1 ≤ 9223372036854775807) (w : World) : Calls Try.prog 9 #[(.agg #[.int .i64 (x_0), .int .i64 (y_0)]), .int .i64 i_1] w fun e w' => e = .returned (.bool true) ∧ Ext w w' := by
  by_cases h : (okC x_0 y_0 && inR i_1 0 36) = true
  · obtain ⟨⟨h1, h2⟩, h3, h4⟩ := (okC_iff _ _).1 (by rw [Bool.and_eq_true] at h; exact h.1)
    have h5 : 0 ≤ i_1 ∧ i_1 ≤ 36 := (inR_iff _ _ _).1 (by rw [Bool.and_eq_true] at h; exact h.2)
    obtain ⟨x, rfl⟩ : ∃ x : Nat, x_0 = x := ⟨x_0.toNat, by omega⟩
    obtain ⟨y, rfl⟩ : ∃ y : Nat, y_0 = y := ⟨y_0.toNat, by omega⟩
    obtain ⟨s, rfl⟩ : ∃ s : Nat, i_1 = s := ⟨i_1.toNat, by omega⟩
    clear h bx_0 by_0 b_1
    skip
    go_enter Try.func9, Try.ntmps9
    go_wp2_with (first | (go_at_call 16; refine (toIntA2_any _ _ _).mono ?_; rintro e w1 ⟨rfl, hE⟩; replace k0_0 : w1.cell? ⟨w.heap.size, 0, none⟩ = some (.int .i64 (x)) := (hE.cells _ _ (by first | exact l0 | (simp; done) | (simp; omega))).trans (by first | exact k0_0 | (go_simp; done)); replace k0_1 : w1.cell? ⟨w.heap.size, 1, none⟩ = some (.int .i64 (y)) := (hE.cells _ _ (by first | exact l0 | (simp; done) | (simp; omega))).trans (by first | exact k0_1 | (go_simp; done)); replace l0 : w.heap.size < w1.heap.size := Nat.lt_of_lt_of_le (by first | exact l0 | (simp; done) | (simp; omega)) hE.size) | (go_at_call 31; refine (sCountKept_ok x y s (by omega) (by omega) (by omega) _).mono ?_; rintro e w1 ⟨rfl, hE⟩; replace k0_0 : w1.cell? ⟨w.heap.size, 0, none⟩ = some (.int .i64 (x)) := (hE.cells _ _ (by first | exact l0 | (simp; done) | (simp; omega))).trans (by first | exact k0_0 | (go_simp; done)); replace k0_1 : w1.cell? ⟨w.heap.size, 1, none⟩ = some (.int .i64 (y)) := (hE.cells _ _ (by first | exact l0 | (simp; done) | (simp; omega))).trans (by first | exact k0_1 | (go_simp; done)); replace l0 : w.heap.size < w1.heap.size := Nat.lt_of_lt_of_le (by first | exact l0 | (simp; done) | (simp; omega)) hE.size) | (go_at_call 32; refine (CountKept_ok x y s (by omega) (by omega) (by omega) _).mono ?_; rintro e w1 ⟨rfl, hE⟩; replace k0_0 : w1.cell? ⟨w.heap.size, 0, none⟩ = some (.int .i64 (x)) := (hE.cells _ _ (by first | exact l0 | (simp; done) | (simp; omega))).trans (by first | exact k0_0 | (go_simp; done)); replace k0_1 : w1.cell? ⟨w.heap.size, 1, none⟩ = some (.int .i64 (y)) := (hE.cells _ _ (by first | exact l0 | (simp; done) | (simp; omega))).trans (by first | exact k0_1 | (go_simp; done)); replace l0 : w.heap.size < w1.heap.size := Nat.lt_of_lt_of_le (by first | exact l0 | (simp; done) | (simp; omega)) hE.size))
    go_ret
    exact ⟨rfl, (by (repeat' (first | (with_reducible exact Ext.refl _) | (with_reducible assumption) | (with_reducible refine Ext.alloc ?_ _) | (with_reducible refine Ext.drew ?_) | (with_reducible refine Ext.drewN ?_ _) | (with_reducible refine Ext.setCell ?_ ?_ _) | (with_reducible refine Ext.trans ?_ (by assumption)))) <;> (first | (with_reducible assumption) | omega | (simp; done) | (simp; omega)))⟩
  · have H := Lib.hid (show (okC x_0 y_0 && inR i_1 0 36) = false by simpa using h)
    clear h bx_0 by_0 b_1
    skip
    go_enter Try.func9, Try.ntmps9
    go_wp2_with (first | (go_at_call 16; refine (toIntA2_any _ _ _).mono ?_; rintro e w1 ⟨rfl, hE⟩; replace k0_0 : w1.cell? ⟨w.heap.size, 0, none⟩ = some (.int .i64 (x_0)) := (hE.cells _ _ (by first | exact l0 | (simp; done) | (simp; omega))).trans (by first | exact k0_0 | (go_simp; done)); replace k0_1 : w1.cell? ⟨w.heap.size, 1, none⟩ = some (.int .i64 (y_0)) := (hE.cells _ _ (by first | exact l0 | (simp; done) | (simp; omega))).trans (by first | exact k0_1 | (go_simp; done)); replace l0 : w.heap.size < w1.heap.size := Nat.lt_of_lt_of_le (by first | exact l0 | (simp; done) | (simp; omega)) hE.size) | (go_at_call 31; refine (sCountKept_bad _ _ _ H.out _).mono ?_; rintro e w1 ⟨rfl, hE⟩; replace k0_0 : w1.cell? ⟨w.heap.size, 0, none⟩ = some (.int .i64 (x_0)) := (hE.cells _ _ (by first | exact l0 | (simp; done) | (simp; omega))).trans (by first | exact k0_0 | (go_simp; done)); replace k0_1 : w1.cell? ⟨w.heap.size, 1, none⟩ = some (.int .i64 (y_0)) := (hE.cells _ _ (by first | exact l0 | (simp; done) | (simp; omega))).trans (by first | exact k0_1 | (go_simp; done)); replace l0 : w.heap.size < w1.heap.size := Nat.lt_of_lt_of_le (by first | exact l0 | (simp; done) | (simp; omega)) hE.size) | (go_at_call 32; refine (CountKept_bad _ _ _ H.out _).mono ?_; rintro e w1 ⟨rfl, hE⟩; replace k0_0 : w1.cell? ⟨w.heap.size, 0, none⟩ = some (.int .i64 (x_0)) := (hE.cells _ _ (by first | exact l0 | (simp; done) | (simp; omega))).trans (by first | exact k0_0 | (go_simp; done)); replace k0_1 : w1.cell? ⟨w.heap.size, 1, none⟩ = some (.int .i64 (y_0)) := (hE.cells _ _ (by first | exact l0 | (simp; done) | (simp; omega))).trans (by first | exact k0_1 | (go_simp; done)); replace l0 : w.heap.size < w1.heap.size := Nat.lt_of_lt_of_le (by first | exact l0 | (simp; done) | (simp; omega)) hE.size))
    go_ret
    exact ⟨rfl, (by (repeat' (first | (with_reducible exact Ext.refl _) | (with_reducible assumption) | (with_reducible refine Ext.alloc ?_ _) | (with_reducible refine Ext.drew ?_) | (with_reducible refine Ext.drewN ?_ _) | (with_reducible refine Ext.setCell ?_ ?_ _) | (with_reducible refine Ext.trans ?_ (by assumption)))) <;> (first | (with_reducible assumption) | omega | (simp; done) | (simp; omega)))⟩
namespace rowFnExactCountKept
open Go.ChangeShapes Go.WideShapes Go.ChangeAt Go.RowKit
set_option maxRecDepth 100000 in
theorem lifted (os : Os) (started : os.Started) (H : Type) (enc : TypeId × Value → H) :
    ReturnsInHanded {} Try.checked os 9 .any (Rows.fnExactCountKeptSpec.pre6 enc Try.prog Try.f9 Rows.fnExactCountKeptRow.domain false) (Rows.fnExactCountKeptSpec.post enc Try.prog Try.f9 false true false false) := by
  refine returnsInHanded_of_change (C := Try.checked) own started (by kernel_rfl) Try.func9
    (ChangeSpec.witness6 (enc := enc) (C := Try.checked) false ⟨#[], #[.agg #[.int .i64 0, .int .i64 0], .int .i64 0], []⟩ 8 (by kernel_rfl) (by kernel_rfl) (by kernel_rfl) (by kernel_rfl)) ?_
  intro W base args ds gs before hval0 hW hcnd _
  have hval : ∀ (j : Nat) t v, Try.f9.params[j]? = some t → args[j]? = some v → Value.okWide Try.prog W .any base t v := hval0
  have hW' := hW
  obtain ⟨p, q, hA0, hV, rfl, hfz, hnd⟩ := hW
  have hA : DataW.TrodAll enc Try.prog W 0 (fun _ => true) true Try.f9.params.toList args.toList ds p := hA0
  rw [Try.params9] at hA hval
  obtain ⟨v0, vs0, d0, ds0, p0, q0, hargs, rfl, rfl, h0, r0⟩ := trodAll_cons hA
  obtain ⟨v1, vs1, d1, ds1, p1, q1, rfl, rfl, rfl, h1, r1⟩ := trodAll_cons r0
  obtain ⟨rfl, rfl, rfl⟩ := trodAll_nil r1
  obtain rfl : args = #[v0, v1] := by cases args; simp_all
  obtain ⟨rfl, rfl⟩ := trodVars_none hV
  obtain ⟨x_0, y_0, rfl, bx_0, by_0⟩ := open_cell (hval 0 22 v0 rfl rfl) h0
  obtain ⟨i_1, rfl, b_1⟩ := open_i (hval 1 3 v1 rfl rfl) h1
  clear hA0 hval0
  refine (walk_FnExactCountKept x_0 y_0 bx_0 by_0 i_1 b_1 W).mono fun e W' ⟨he, hx⟩ => ?_
  subst he
  exact ⟨_, rfl, post_law laidOut hW' rfl rfl rfl rfl rfl Try.underlying4 (by rw [Try.params9]; intro t ht; simp at ht; first | (rcases ht with rfl | rfl | rfl | rfl <;> exact ⟨by kernel_rfl, of_decide_eq_true (by kernel_rfl)⟩) | (rcases ht with rfl | rfl | rfl <;> exact ⟨by kernel_rfl, of_decide_eq_true (by kernel_rfl)⟩) | (rcases ht with rfl | rfl <;> exact ⟨by kernel_rfl, of_decide_eq_true (by kernel_rfl)⟩) | (subst ht; exact ⟨by kernel_rfl, of_decide_eq_true (by kernel_rfl)⟩)) hx⟩
theorem proved : Rows.FnExactCountKeptSaid :=
  OpenClaim.holds_of_wide 9 Try.f9 rfl rfl rfl rfl rfl rfl rfl ⟨rfl, rfl, rfl, rfl, rfl⟩ rfl rfl rfl rfl rfl (by kernel_rfl) Try.func9 (by kernel_rfl)
    (of_decide_eq_true (by kernel_rfl)) (by unfold Func.isWrapper; first | (rw [if_pos (by decide +kernel)]; kernel_rfl) | (rw [if_neg (by decide +kernel)]; exact ⟨rfl, rfl⟩))
    (fun os started H enc _ => lifted os started H enc)
#print axioms proved
end rowFnExactCountKept
end Go.Proofs.Ytpkddnllfhihpaa
