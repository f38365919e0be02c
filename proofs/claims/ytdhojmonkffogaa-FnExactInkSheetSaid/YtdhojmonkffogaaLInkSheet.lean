/- The statement FnExactInkSheet is proved here. Conditions: none beyond those that the statement itself makes. -/
import Derived.Test.YtdhojmonkffogaaInkS
import Derived.Test.YtdhojmonkffogaaRow
set_option linter.unusedVariables false
set_option maxRecDepth 100000
set_option maxHeartbeats 1000000
namespace Go.Proofs.Ytdhojmonkffogaa
open Go Go.RowKit
theorem walkIS (p z : Nat → Int) (c : Int) (b : Bool)
    (hS : ∀ w, Calls Try.prog 29 #[.agg (av 36 p), .int .i64 c] w fun e w' => e = .returned (.tuple #[(.agg #[.int .i64 (z 0), .int .i64 (z 1), .int .i64 (z 2), .int .i64 (z 3), .int .i64 (z 4), .int .i64 (z 5)]), .bool b]) ∧ Ext w w')
    (hI : ∀ w, Calls Try.prog 30 #[.agg (av 36 p), .int .i64 c] w fun e w' => e = .returned (.tuple #[(.agg #[.int .i64 (z 0), .int .i64 (z 1), .int .i64 (z 2), .int .i64 (z 3), .int .i64 (z 4), .int .i64 (z 5)]), .bool b]) ∧ Ext w w') (w : World) :
    Calls Try.prog 8 #[.agg (av 36 p), .int .i64 c] w fun e w' => e = .returned (.bool true) ∧ Ext w w' := by
  have HS := Lib.hid hS
  have HI := Lib.hid hI
  clear hS hI
  skip
  cases b
  all_goals
    go_enter Try.func8, Try.ntmps8
    have tk0 := Lib.hid True.intro; have tk1 := Lib.hid True.intro
    go_wp2_with (first | (clear tk0; (refine wpList_load_row rfl 25 (.tmp 2) rfl _ rfl _ _ _ _ (Big.new w 25 36 p rfl) Try.underlying25 rfl (szLP _) ?_; (try go_simp))) | (refine wpList_load_row rfl 25 (.tmp 2) rfl _ rfl _ _ _ _ HA2.out Try.underlying25 rfl (szLP _) ?_; (try go_simp)) | (clear tk1; (go_at_call 12; refine (toPicture_any p _).mono ?_; rintro e w1 ⟨rfl, hE⟩; replace HA := Lib.hid ((show Big _ (w.heap.size) 25 36 (p) by first | exact HA.out | exact Big.new36 _ _ (by first | rfl | (simp; done) | (simp; omega)) | exact Big.new _ _ _ _ (by first | rfl | (simp; done) | (simp; omega)) | exact (Big.new _ _ _ _ (by first | rfl | (simp; done) | (simp; omega))).ext ((Ext.refl _).alloc _) | exact ((Big.new _ _ _ _ (by first | rfl | (simp; done) | (simp; omega))).ext ((Ext.refl _).alloc _)).ext ((Ext.refl _).alloc _)).ext hE))) | ((go_at_call 29; refine (HS.out _).mono ?_; rintro e w1 ⟨rfl, hE⟩; replace HA := Lib.hid ((show Big _ (w.heap.size) 25 36 (p) by first | exact HA.out | exact Big.new36 _ _ (by first | rfl | (simp; done) | (simp; omega)) | exact Big.new _ _ _ _ (by first | rfl | (simp; done) | (simp; omega)) | exact (Big.new _ _ _ _ (by first | rfl | (simp; done) | (simp; omega))).ext ((Ext.refl _).alloc _) | exact ((Big.new _ _ _ _ (by first | rfl | (simp; done) | (simp; omega))).ext ((Ext.refl _).alloc _)).ext ((Ext.refl _).alloc _)).ext hE)); obtain ⟨wa, rfl⟩ : ∃ x, x = w1 := ⟨_, rfl⟩; have HA2 := Lib.hid (HA.out.ext ((Ext.refl wa).alloc (.cells #[.int .i64 (z 0), .int .i64 (z 1), .int .i64 (z 2), .int .i64 (z 3), .int .i64 (z 4), .int .i64 (z 5)] 36))); skip; skip) | (go_at_call 12; refine (toPicture_any p _).mono ?_; rintro e w1 ⟨rfl, hE⟩; replace k0_0 : w1.cell? ⟨wa.heap.size, 0, none⟩ = some (.int .i64 (z 0)) := (hE.cells _ _ (by first | exact l0 | (simp; done) | (simp; omega))).trans (by first | exact k0_0 | (go_simp; done)); replace k0_1 : w1.cell? ⟨wa.heap.size, 1, none⟩ = some (.int .i64 (z 1)) := (hE.cells _ _ (by first | exact l0 | (simp; done) | (simp; omega))).trans (by first | exact k0_1 | (go_simp; done)); replace k0_2 : w1.cell? ⟨wa.heap.size, 2, none⟩ = some (.int .i64 (z 2)) := (hE.cells _ _ (by first | exact l0 | (simp; done) | (simp; omega))).trans (by first | exact k0_2 | (go_simp; done)); replace k0_3 : w1.cell? ⟨wa.heap.size, 3, none⟩ = some (.int .i64 (z 3)) := (hE.cells _ _ (by first | exact l0 | (simp; done) | (simp; omega))).trans (by first | exact k0_3 | (go_simp; done)); replace k0_4 : w1.cell? ⟨wa.heap.size, 4, none⟩ = some (.int .i64 (z 4)) := (hE.cells _ _ (by first | exact l0 | (simp; done) | (simp; omega))).trans (by first | exact k0_4 | (go_simp; done)); replace k0_5 : w1.cell? ⟨wa.heap.size, 5, none⟩ = some (.int .i64 (z 5)) := (hE.cells _ _ (by first | exact l0 | (simp; done) | (simp; omega))).trans (by first | exact k0_5 | (go_simp; done)); replace l0 : wa.heap.size < w1.heap.size := Nat.lt_of_lt_of_le (by first | exact l0 | (simp; done) | (simp; omega)) hE.size) | ((go_at_call 30; refine (HI.out _).mono ?_; rintro e w1 ⟨rfl, hE⟩; replace k0_0 : w1.cell? ⟨wa.heap.size, 0, none⟩ = some (.int .i64 (z 0)) := (hE.cells _ _ (by first | exact l0 | (simp; done) | (simp; omega))).trans (by first | exact k0_0 | (go_simp; done)); replace k0_1 : w1.cell? ⟨wa.heap.size, 1, none⟩ = some (.int .i64 (z 1)) := (hE.cells _ _ (by first | exact l0 | (simp; done) | (simp; omega))).trans (by first | exact k0_1 | (go_simp; done)); replace k0_2 : w1.cell? ⟨wa.heap.size, 2, none⟩ = some (.int .i64 (z 2)) := (hE.cells _ _ (by first | exact l0 | (simp; done) | (simp; omega))).trans (by first | exact k0_2 | (go_simp; done)); replace k0_3 : w1.cell? ⟨wa.heap.size, 3, none⟩ = some (.int .i64 (z 3)) := (hE.cells _ _ (by first | exact l0 | (simp; done) | (simp; omega))).trans (by first | exact k0_3 | (go_simp; done)); replace k0_4 : w1.cell? ⟨wa.heap.size, 4, none⟩ = some (.int .i64 (z 4)) := (hE.cells _ _ (by first | exact l0 | (simp; done) | (simp; omega))).trans (by first | exact k0_4 | (go_simp; done)); replace k0_5 : w1.cell? ⟨wa.heap.size, 5, none⟩ = some (.int .i64 (z 5)) := (hE.cells _ _ (by first | exact l0 | (simp; done) | (simp; omega))).trans (by first | exact k0_5 | (go_simp; done)); replace l0 : wa.heap.size < w1.heap.size := Nat.lt_of_lt_of_le (by first | exact l0 | (simp; done) | (simp; omega)) hE.size); obtain ⟨wb, rfl⟩ : ∃ x, x = w1 := ⟨_, rfl⟩; skip) | (go_at_call 22; refine (eqSheet_same _ _).mono ?_; rintro e w1 ⟨rfl, hE⟩))
    go_ret
    exact ⟨rfl, (by (repeat' (first | (with_reducible exact Ext.refl _) | (with_reducible assumption) | (with_reducible refine Ext.alloc ?_ _) | (with_reducible refine Ext.drew ?_) | (with_reducible refine Ext.drewN ?_ _) | (with_reducible refine Ext.setCell ?_ ?_ _) | (with_reducible refine Ext.trans ?_ (by assumption)))) <;> (first | (with_reducible assumption) | omega | (simp; done) | (simp; omega)))⟩
theorem walk_FnExactInkSheet (r_0 : Nat → Int) (b_0 : ∀ j, j < 36 → -9223372036854775808 ≤ r_0 j ∧ r_0 j ≤ 9223372036854775807) (i_1 : Int) (b_1 : -9223372036854775808 ≤ i_1 ∧ i_1 ≤ 9223372036854775807) (w : World) : Calls Try.prog 8 #[(.agg #[.int .i64 (r_0 0), .int .i64 (r_0 1), .int .i64 (r_0 2), .int .i64 (r_0 3), .int .i64 (r_0 4), .int .i64 (r_0 5), .int .i64 (r_0 6), .int .i64 (r_0 7), .int .i64 (r_0 8), .int .i64 (r_0 9), .int .i64 (r_0 10), .int .i64 (r_0 11), .int .i64 (r_0 12), .int .i64 (r_0 13), .int .i64 (r_0 14), .int .i64 (r_0 15), .int .i64 (r_0 16), .int .i64 (r_0 17), .int .i64 (r_0 18), .int .i64 (r_0 19), .int .i64 (r_0 20), .int .i64 (r_0 21), .int .i64 (r_0 22), .int .i64 (r_0 23), .int .i64 (r_0 24), .int .i64 (r_0 25), .int .i64 (r_0 26), .int .i64 (r_0 27), .int .i64 (r_0 28), .int .i64 (r_0 29), .int .i64 (r_0 30), .int .i64 (r_0 31), .int .i64 (r_0 32), .int .i64 (r_0 33), .int .i64 (r_0 34), .int .i64 (r_0 35)]), .int .i64 i_1] w fun e w' => e = .returned (.bool true) ∧ Ext w w' := by
  clear b_0 b_1
  rw [pc_av]
  cases h : (picB r_0 && inR i_1 0 4)
  · exact walkIS r_0 (fun _ => 0) i_1 false (fun w => sInkSheet_bad r_0 i_1 h w) (fun w => InkSheet_bad r_0 i_1 h w) w
  · obtain ⟨h1, h2⟩ := Bool.and_eq_true_iff.1 h
    exact walkIS r_0 (rw (mkN (inkP r_0 i_1) 36)) i_1 true (fun w => sInkSheet_ok r_0 i_1 h1 h2 w) (fun w => InkSheet_ok r_0 i_1 h1 h2 w) w
namespace rowFnExactInkSheet
open Go.ChangeShapes Go.WideShapes Go.ChangeAt Go.RowKit
set_option maxRecDepth 100000 in
theorem lifted (os : Os) (started : os.Started) (H : Type) (enc : TypeId × Value → H) :
    ReturnsInHanded {} Try.checked os 8 .any (Rows.fnExactInkSheetSpec.pre6 enc Try.prog Try.f8 Rows.fnExactInkSheetRow.domain false) (Rows.fnExactInkSheetSpec.post enc Try.prog Try.f8 false true false false) := by
  refine returnsInHanded_of_change (C := Try.checked) own started (by kernel_rfl) Try.func8
    (ChangeSpec.witness6 (enc := enc) (C := Try.checked) false ⟨#[], #[.agg #[.int .i64 0, .int .i64 0, .int .i64 0, .int .i64 0, .int .i64 0, .int .i64 0, .int .i64 0, .int .i64 0, .int .i64 0, .int .i64 0, .int .i64 0, .int .i64 0, .int .i64 0, .int .i64 0, .int .i64 0, .int .i64 0, .int .i64 0, .int .i64 0, .int .i64 0, .int .i64 0, .int .i64 0, .int .i64 0, .int .i64 0, .int .i64 0, .int .i64 0, .int .i64 0, .int .i64 0, .int .i64 0, .int .i64 0, .int .i64 0, .int .i64 0, .int .i64 0, .int .i64 0, .int .i64 0, .int .i64 0, .int .i64 0], .int .i64 0], []⟩ 8 (by kernel_rfl) (by kernel_rfl) (by kernel_rfl) (by kernel_rfl)) ?_
  intro W base args ds gs before hval0 hW hcnd _
  have hval : ∀ (j : Nat) t v, Try.f8.params[j]? = some t → args[j]? = some v → Value.okWide Try.prog W .any base t v := hval0
  have hW' := hW
  obtain ⟨p, q, hA0, hV, rfl, hfz, hnd⟩ := hW
  have hA : DataW.TrodAll enc Try.prog W 0 (fun _ => true) true Try.f8.params.toList args.toList ds p := hA0
  rw [Try.params8] at hA hval
  obtain ⟨v0, vs0, d0, ds0, p0, q0, hargs, rfl, rfl, h0, r0⟩ := trodAll_cons hA
  obtain ⟨v1, vs1, d1, ds1, p1, q1, rfl, rfl, rfl, h1, r1⟩ := trodAll_cons r0
  obtain ⟨rfl, rfl, rfl⟩ := trodAll_nil r1
  obtain rfl : args = #[v0, v1] := by cases args; simp_all
  obtain ⟨rfl, rfl⟩ := trodVars_none hV
  obtain ⟨r_0, rfl, b_0⟩ := open_picture (hval 0 25 v0 rfl rfl) h0
  obtain ⟨i_1, rfl, b_1⟩ := open_i (hval 1 3 v1 rfl rfl) h1
  clear hA0 hval0
  refine (walk_FnExactInkSheet r_0 b_0 i_1 b_1 W).mono fun e W' ⟨he, hx⟩ => ?_
  subst he
  exact ⟨_, rfl, post_law laidOut hW' rfl rfl rfl rfl rfl Try.underlying4 (by rw [Try.params8]; intro t ht; simp at ht; first | (rcases ht with rfl | rfl | rfl | rfl <;> exact ⟨by kernel_rfl, of_decide_eq_true (by kernel_rfl)⟩) | (rcases ht with rfl | rfl | rfl <;> exact ⟨by kernel_rfl, of_decide_eq_true (by kernel_rfl)⟩) | (rcases ht with rfl | rfl <;> exact ⟨by kernel_rfl, of_decide_eq_true (by kernel_rfl)⟩) | (subst ht; exact ⟨by kernel_rfl, of_decide_eq_true (by kernel_rfl)⟩)) hx⟩
theorem proved : Rows.FnExactInkSheetSaid :=
  OpenClaim.holds_of_wide 8 Try.f8 rfl rfl rfl rfl rfl rfl rfl ⟨rfl, rfl, rfl, rfl, rfl⟩ rfl rfl rfl rfl rfl (by kernel_rfl) Try.func8 (by kernel_rfl)
    (of_decide_eq_true (by kernel_rfl)) (by unfold Func.isWrapper; first | (rw [if_pos (by decide +kernel)]; kernel_rfl) | (rw [if_neg (by decide +kernel)]; exact ⟨rfl, rfl⟩))
    (fun os started H enc _ => lifted os started H enc)
#print axioms proved
end rowFnExactInkSheet
end Go.Proofs.Ytdhojmonkffogaa
