/- The statement FnExactSlantSheet is proved here. Conditions: none beyond those that the statement itself makes. -/
import Derived.Test.YtpkddnllfhihpaaRow
import Derived.Test.YtpkddnllfhihpaaSlant
import Derived.Test.YtpkddnllfhihpaaConv
set_option linter.unusedVariables false
set_option maxRecDepth 100000
set_option maxHeartbeats 1000000
namespace Go.Proofs.Ytpkddnllfhihpaa
open Go Go.RowKit
theorem walk_FnExactSlantSheet (i_0 : Int) (b_0 : -9223372036854775808 ≤ i_0 ∧ i_0 ≤ 9223372036854775807) (i_1 : Int) (b_1 : -9223372036854775808 ≤ i_1 ∧ i_1 ≤ 9223372036854775807) (w : World) : Calls Try.prog 10 #[.int .i64 i_0, .int .i64 i_1] w fun e w' => e = .returned (.bool true) ∧ Ext w w' := by
  clear b_0 b_1
  cases hv : (inR i_0 0 63 && inR i_1 0 5)
  · have H := Lib.hid hv
    clear hv
    skip
    go_enter Try.func10, Try.ntmps10
    go_wp2_with ((go_at_call 33; refine (sSlantSheet_bad _ _ H.out _).mono ?_; rintro e w1 ⟨rfl, hE⟩); obtain ⟨wa, rfl⟩ : ∃ x, x = w1 := ⟨_, rfl⟩)
    skip
    go_wp2_with (go_at_call 34; refine (SlantSheet_bad _ _ H.out _).mono ?_; rintro e w1 ⟨rfl, hE⟩; replace k0_0 : w1.cell? ⟨wa.heap.size, 0, none⟩ = some (.int .i64 (0)) := (hE.cells _ _ (by first | exact l0 | (simp; done) | (simp; omega))).trans (by first | exact k0_0 | (go_simp; done)); replace k0_1 : w1.cell? ⟨wa.heap.size, 1, none⟩ = some (.int .i64 (0)) := (hE.cells _ _ (by first | exact l0 | (simp; done) | (simp; omega))).trans (by first | exact k0_1 | (go_simp; done)); replace k0_2 : w1.cell? ⟨wa.heap.size, 2, none⟩ = some (.int .i64 (0)) := (hE.cells _ _ (by first | exact l0 | (simp; done) | (simp; omega))).trans (by first | exact k0_2 | (go_simp; done)); replace k0_3 : w1.cell? ⟨wa.heap.size, 3, none⟩ = some (.int .i64 (0)) := (hE.cells _ _ (by first | exact l0 | (simp; done) | (simp; omega))).trans (by first | exact k0_3 | (go_simp; done)); replace k0_4 : w1.cell? ⟨wa.heap.size, 4, none⟩ = some (.int .i64 (0)) := (hE.cells _ _ (by first | exact l0 | (simp; done) | (simp; omega))).trans (by first | exact k0_4 | (go_simp; done)); replace k0_5 : w1.cell? ⟨wa.heap.size, 5, none⟩ = some (.int .i64 (0)) := (hE.cells _ _ (by first | exact l0 | (simp; done) | (simp; omega))).trans (by first | exact k0_5 | (go_simp; done)); replace l0 : wa.heap.size < w1.heap.size := Nat.lt_of_lt_of_le (by first | exact l0 | (simp; done) | (simp; omega)) hE.size)
    go_wp2_with (go_at_call 35; refine (eqSheet_same (fun _ => 0) _).mono ?_; rintro e w1 ⟨rfl, hE⟩)
    go_ret
    exact ⟨rfl, (by (repeat' (first | (with_reducible exact Ext.refl _) | (with_reducible assumption) | (with_reducible refine Ext.alloc ?_ _) | (with_reducible refine Ext.drew ?_) | (with_reducible refine Ext.drewN ?_ _) | (with_reducible refine Ext.setCell ?_ ?_ _) | (with_reducible refine Ext.trans ?_ (by assumption)))) <;> (first | (with_reducible assumption) | omega | (simp; done) | (simp; omega)))⟩
  · obtain ⟨h1, h2⟩ := Bool.and_eq_true_iff.1 hv
    rw [inR_iff] at h1 h2
    obtain ⟨r, rfl⟩ : ∃ r : Nat, i_0 = r := ⟨i_0.toNat, by omega⟩
    obtain ⟨d, rfl⟩ : ∃ d : Nat, i_1 = d := ⟨i_1.toNat, by omega⟩
    clear hv
    skip
    go_enter Try.func10, Try.ntmps10
    go_wp2_with ((go_at_call 33; refine (sSlantSheet_ok r d (by omega) (by omega) _).mono ?_; rintro e w1 ⟨rfl, hE⟩); obtain ⟨wa, rfl⟩ : ∃ x, x = w1 := ⟨_, rfl⟩)
    skip
    go_wp2_with (go_at_call 34; refine (SlantSheet_ok r d (by omega) (by omega) _).mono ?_; rintro e w1 ⟨rfl, hE⟩; replace k0_0 : w1.cell? ⟨wa.heap.size, 0, none⟩ = some (.int .i64 (slN r d 0)) := (hE.cells _ _ (by first | exact l0 | (simp; done) | (simp; omega))).trans (by first | exact k0_0 | (go_simp; done)); replace k0_1 : w1.cell? ⟨wa.heap.size, 1, none⟩ = some (.int .i64 (slN r d 1)) := (hE.cells _ _ (by first | exact l0 | (simp; done) | (simp; omega))).trans (by first | exact k0_1 | (go_simp; done)); replace k0_2 : w1.cell? ⟨wa.heap.size, 2, none⟩ = some (.int .i64 (slN r d 2)) := (hE.cells _ _ (by first | exact l0 | (simp; done) | (simp; omega))).trans (by first | exact k0_2 | (go_simp; done)); replace k0_3 : w1.cell? ⟨wa.heap.size, 3, none⟩ = some (.int .i64 (slN r d 3)) := (hE.cells _ _ (by first | exact l0 | (simp; done) | (simp; omega))).trans (by first | exact k0_3 | (go_simp; done)); replace k0_4 : w1.cell? ⟨wa.heap.size, 4, none⟩ = some (.int .i64 (slN r d 4)) := (hE.cells _ _ (by first | exact l0 | (simp; done) | (simp; omega))).trans (by first | exact k0_4 | (go_simp; done)); replace k0_5 : w1.cell? ⟨wa.heap.size, 5, none⟩ = some (.int .i64 (slN r d 5)) := (hE.cells _ _ (by first | exact l0 | (simp; done) | (simp; omega))).trans (by first | exact k0_5 | (go_simp; done)); replace l0 : wa.heap.size < w1.heap.size := Nat.lt_of_lt_of_le (by first | exact l0 | (simp; done) | (simp; omega)) hE.size)
    go_wp2_with (go_at_call 35; refine (eqSheet_same (slN r d) _).mono ?_; rintro e w1 ⟨rfl, hE⟩)
    go_ret
    exact ⟨rfl, (by (repeat' (first | (with_reducible exact Ext.refl _) | (with_reducible assumption) | (with_reducible refine Ext.alloc ?_ _) | (with_reducible refine Ext.drew ?_) | (with_reducible refine Ext.drewN ?_ _) | (with_reducible refine Ext.setCell ?_ ?_ _) | (with_reducible refine Ext.trans ?_ (by assumption)))) <;> (first | (with_reducible assumption) | omega | (simp; done) | (simp; omega)))⟩
namespace rowFnExactSlantSheet
open Go.ChangeShapes Go.WideShapes Go.ChangeAt Go.RowKit
set_option maxRecDepth 100000 in
theorem lifted (os : Os) (started : os.Started) (H : Type) (enc : TypeId × Value → H) :
    ReturnsInHanded {} Try.checked os 10 .any (Rows.fnExactSlantSheetSpec.pre6 enc Try.prog Try.f10 Rows.fnExactSlantSheetRow.domain false) (Rows.fnExactSlantSheetSpec.post enc Try.prog Try.f10 false true false false) := by
  refine returnsInHanded_of_change (C := Try.checked) own started (by kernel_rfl) Try.func10
    (ChangeSpec.witness6 (enc := enc) (C := Try.checked) false ⟨#[], #[.int .i64 0, .int .i64 0], []⟩ 8 (by kernel_rfl) (by kernel_rfl) (by kernel_rfl) (by kernel_rfl)) ?_
  intro W base args ds gs before hval0 hW hcnd _
  have hval : ∀ (j : Nat) t v, Try.f10.params[j]? = some t → args[j]? = some v → Value.okWide Try.prog W .any base t v := hval0
  have hW' := hW
  obtain ⟨p, q, hA0, hV, rfl, hfz, hnd⟩ := hW
  have hA : DataW.TrodAll enc Try.prog W 0 (fun _ => true) true Try.f10.params.toList args.toList ds p := hA0
  rw [Try.params10] at hA hval
  obtain ⟨v0, vs0, d0, ds0, p0, q0, hargs, rfl, rfl, h0, r0⟩ := trodAll_cons hA
  obtain ⟨v1, vs1, d1, ds1, p1, q1, rfl, rfl, rfl, h1, r1⟩ := trodAll_cons r0
  obtain ⟨rfl, rfl, rfl⟩ := trodAll_nil r1
  obtain rfl : args = #[v0, v1] := by cases args; simp_all
  obtain ⟨rfl, rfl⟩ := trodVars_none hV
  obtain ⟨i_0, rfl, b_0⟩ := open_i (hval 0 3 v0 rfl rfl) h0
  obtain ⟨i_1, rfl, b_1⟩ := open_i (hval 1 3 v1 rfl rfl) h1
  clear hA0 hval0
  refine (walk_FnExactSlantSheet i_0 b_0 i_1 b_1 W).mono fun e W' ⟨he, hx⟩ => ?_
  subst he
  exact ⟨_, rfl, post_law laidOut hW' rfl rfl rfl rfl rfl Try.underlying4 (by rw [Try.params10]; intro t ht; simp at ht; first | (rcases ht with rfl | rfl | rfl | rfl <;> exact ⟨by kernel_rfl, of_decide_eq_true (by kernel_rfl)⟩) | (rcases ht with rfl | rfl | rfl <;> exact ⟨by kernel_rfl, of_decide_eq_true (by kernel_rfl)⟩) | (rcases ht with rfl | rfl <;> exact ⟨by kernel_rfl, of_decide_eq_true (by kernel_rfl)⟩) | (subst ht; exact ⟨by kernel_rfl, of_decide_eq_true (by kernel_rfl)⟩)) hx⟩
theorem proved : Rows.FnExactSlantSheetSaid :=
  OpenClaim.holds_of_wide 10 Try.f10 rfl rfl rfl rfl rfl rfl rfl ⟨rfl, rfl, rfl, rfl, rfl⟩ rfl rfl rfl rfl rfl (by kernel_rfl) Try.func10 (by kernel_rfl)
    (of_decide_eq_true (by kernel_rfl)) (by unfold Func.isWrapper; first | (rw [if_pos (by decide +kernel)]; kernel_rfl) | (rw [if_neg (by decide +kernel)]; exact ⟨rfl, rfl⟩))
    (fun os started H enc _ => lifted os started H enc)
#print axioms proved
end rowFnExactSlantSheet
end Go.Proofs.Ytpkddnllfhihpaa
