/- The statement FnExactPictureText is proved here. Conditions: none beyond those that the statement itself makes. -/
import Derived.Test.YtpopipacegkkbaaPtx
import Derived.Test.YtpopipacegkkbaaRow
set_option linter.unusedVariables false
set_option maxRecDepth 100000
set_option maxHeartbeats 1000000
namespace Go.Proofs.Ytpopipacegkkbaa
open Go Go.RowKit
theorem walkPt (p : Nat → Int) (S : ByteArray) (b : Bool)
    (hS : ∀ w, Calls Try.prog 7 #[.agg (av 36 p)] w fun e w' => e = .returned (.tuple #[.string S, .bool b]) ∧ Ext w w')
    (hI : ∀ w, Calls Try.prog 9 #[.agg (av 36 p)] w fun e w' => e = .returned (.tuple #[.string S, .bool b]) ∧ Ext w w') (w : World) :
    Calls Try.prog 3 #[.agg (av 36 p)] w fun e w' => e = .returned (.bool true) ∧ Ext w w' := by
  have HS := Lib.hid hS
  have HI := Lib.hid hI
  clear hS hI
  skip
  cases b
  all_goals
    go_enter Try.func3, Try.ntmps3
    have tk0 := Lib.hid True.intro
    go_wp2_with (first | (clear tk0; (refine wpList_load_row rfl 25 (.tmp 1) rfl _ rfl _ _ _ _ (Big.new w 25 36 p rfl) Try.underlying25 rfl (szLP _) ?_; (try go_simp))) | (refine wpList_load_row rfl 25 (.tmp 1) rfl _ rfl _ _ _ _ HA.out Try.underlying25 rfl (szLP _) ?_; (try go_simp)) | (go_at_call 8; refine (toPicture_any p _).mono ?_; rintro e w1 ⟨rfl, hE⟩; replace HA := Lib.hid ((show Big _ (w.heap.size) 25 36 (p) by first | exact HA.out | exact Big.new36 _ _ (by first | rfl | (simp; done) | (simp; omega)) | exact Big.new _ _ _ _ (by first | rfl | (simp; done) | (simp; omega)) | exact (Big.new _ _ _ _ (by first | rfl | (simp; done) | (simp; omega))).ext ((Ext.refl _).alloc _) | exact ((Big.new _ _ _ _ (by first | rfl | (simp; done) | (simp; omega))).ext ((Ext.refl _).alloc _)).ext ((Ext.refl _).alloc _)).ext hE)) | (go_at_call 7; refine (HS.out _).mono ?_; rintro e w1 ⟨rfl, hE⟩; replace HA := Lib.hid ((show Big _ (w.heap.size) 25 36 (p) by first | exact HA.out | exact Big.new36 _ _ (by first | rfl | (simp; done) | (simp; omega)) | exact Big.new _ _ _ _ (by first | rfl | (simp; done) | (simp; omega)) | exact (Big.new _ _ _ _ (by first | rfl | (simp; done) | (simp; omega))).ext ((Ext.refl _).alloc _) | exact ((Big.new _ _ _ _ (by first | rfl | (simp; done) | (simp; omega))).ext ((Ext.refl _).alloc _)).ext ((Ext.refl _).alloc _)).ext hE)) | (go_at_call 9; refine (HI.out _).mono ?_; rintro e w1 ⟨rfl, hE⟩; replace HA := Lib.hid ((show Big _ (w.heap.size) 25 36 (p) by first | exact HA.out | exact Big.new36 _ _ (by first | rfl | (simp; done) | (simp; omega)) | exact Big.new _ _ _ _ (by first | rfl | (simp; done) | (simp; omega)) | exact (Big.new _ _ _ _ (by first | rfl | (simp; done) | (simp; omega))).ext ((Ext.refl _).alloc _) | exact ((Big.new _ _ _ _ (by first | rfl | (simp; done) | (simp; omega))).ext ((Ext.refl _).alloc _)).ext ((Ext.refl _).alloc _)).ext hE)))
    go_ret
    exact ⟨rfl, (by (repeat' (first | (with_reducible exact Ext.refl _) | (with_reducible assumption) | (with_reducible refine Ext.alloc ?_ _) | (with_reducible refine Ext.drew ?_) | (with_reducible refine Ext.drewN ?_ _) | (with_reducible refine Ext.setCell ?_ ?_ _) | (with_reducible refine Ext.trans ?_ (by assumption)))) <;> (first | (with_reducible assumption) | omega | (simp; done) | (simp; omega)))⟩
theorem walk_FnExactPictureText (r_0 : Nat → Int) (b_0 : ∀ j, j < 36 → -9223372036854775808 ≤ r_0 j ∧ r_0 j ≤ 9223372036854775807) (w : World) : Calls Try.prog 3 #[(.agg #[.int .i64 (r_0 0), .int .i64 (r_0 1), .int .i64 (r_0 2), .int .i64 (r_0 3), .int .i64 (r_0 4), .int .i64 (r_0 5), .int .i64 (r_0 6), .int .i64 (r_0 7), .int .i64 (r_0 8), .int .i64 (r_0 9), .int .i64 (r_0 10), .int .i64 (r_0 11), .int .i64 (r_0 12), .int .i64 (r_0 13), .int .i64 (r_0 14), .int .i64 (r_0 15), .int .i64 (r_0 16), .int .i64 (r_0 17), .int .i64 (r_0 18), .int .i64 (r_0 19), .int .i64 (r_0 20), .int .i64 (r_0 21), .int .i64 (r_0 22), .int .i64 (r_0 23), .int .i64 (r_0 24), .int .i64 (r_0 25), .int .i64 (r_0 26), .int .i64 (r_0 27), .int .i64 (r_0 28), .int .i64 (r_0 29), .int .i64 (r_0 30), .int .i64 (r_0 31), .int .i64 (r_0 32), .int .i64 (r_0 33), .int .i64 (r_0 34), .int .i64 (r_0 35)])] w fun e w' => e = .returned (.bool true) ∧ Ext w w' := by
  clear b_0
  rw [pc_av]
  cases h : picB r_0
  · exact walkPt r_0 _ false (fun w => sPictureText_bad r_0 h w) (fun w => PictureText_bad r_0 h w) w
  · exact walkPt r_0 _ true (fun w => sPictureText_ok r_0 h w) (fun w => PictureText_ok r_0 h w) w
namespace rowFnExactPictureText
open Go.ChangeShapes Go.WideShapes Go.ChangeAt Go.RowKit
set_option maxRecDepth 100000 in
theorem lifted (os : Os) (started : os.Started) (H : Type) (enc : TypeId × Value → H) :
    ReturnsInHanded {} Try.checked os 3 .any (Rows.fnExactPictureTextSpec.pre6 enc Try.prog Try.f3 Rows.fnExactPictureTextRow.domain false) (Rows.fnExactPictureTextSpec.post enc Try.prog Try.f3 false true false false) := by
  refine returnsInHanded_of_change (C := Try.checked) own started (by kernel_rfl) Try.func3
    (ChangeSpec.witness6 (enc := enc) (C := Try.checked) false ⟨#[], #[.agg #[.int .i64 0, .int .i64 0, .int .i64 0, .int .i64 0, .int .i64 0, .int .i64 0, .int .i64 0, .int .i64 0, .int .i64 0, .int .i64 0, .int .i64 0, .int .i64 0, .int .i64 0, .int .i64 0, .int .i64 0, .int .i64 0, .int .i64 0, .int .i64 0, .int .i64 0, .int .i64 0, .int .i64 0, .int .i64 0, .int .i64 0, .int .i64 0, .int .i64 0, .int .i64 0, .int .i64 0, .int .i64 0, .int .i64 0, .int .i64 0, .int .i64 0, .int .i64 0, .int .i64 0, .int .i64 0, .int .i64 0, .int .i64 0]], []⟩ 8 (by kernel_rfl) (by kernel_rfl) (by kernel_rfl) (by kernel_rfl)) ?_
  intro W base args ds gs before hval0 hW hcnd _
  have hval : ∀ (j : Nat) t v, Try.f3.params[j]? = some t → args[j]? = some v → Value.okWide Try.prog W .any base t v := hval0
  have hW' := hW
  obtain ⟨p, q, hA0, hV, rfl, hfz, hnd⟩ := hW
  have hA : DataW.TrodAll enc Try.prog W 0 (fun _ => true) true Try.f3.params.toList args.toList ds p := hA0
  rw [Try.params3] at hA hval
  obtain ⟨v0, vs0, d0, ds0, p0, q0, hargs, rfl, rfl, h0, r0⟩ := trodAll_cons hA
  obtain ⟨rfl, rfl, rfl⟩ := trodAll_nil r0
  obtain rfl : args = #[v0] := by cases args; simp_all
  obtain ⟨rfl, rfl⟩ := trodVars_none hV
  obtain ⟨r_0, rfl, b_0⟩ := open_picture (hval 0 25 v0 rfl rfl) h0
  clear hA0 hval0
  refine (walk_FnExactPictureText r_0 b_0 W).mono fun e W' ⟨he, hx⟩ => ?_
  subst he
  exact ⟨_, rfl, post_law laidOut hW' rfl rfl rfl rfl rfl Try.underlying4 (by rw [Try.params3]; intro t ht; simp at ht; first | (rcases ht with rfl | rfl | rfl | rfl <;> exact ⟨by kernel_rfl, of_decide_eq_true (by kernel_rfl)⟩) | (rcases ht with rfl | rfl | rfl <;> exact ⟨by kernel_rfl, of_decide_eq_true (by kernel_rfl)⟩) | (rcases ht with rfl | rfl <;> exact ⟨by kernel_rfl, of_decide_eq_true (by kernel_rfl)⟩) | (subst ht; exact ⟨by kernel_rfl, of_decide_eq_true (by kernel_rfl)⟩)) hx⟩
theorem proved : Rows.FnExactPictureTextSaid :=
  OpenClaim.holds_of_wide 3 Try.f3 rfl rfl rfl rfl rfl rfl rfl ⟨rfl, rfl, rfl, rfl, rfl⟩ rfl rfl rfl rfl rfl (by kernel_rfl) Try.func3 (by kernel_rfl)
    (of_decide_eq_true (by kernel_rfl)) (by unfold Func.isWrapper; first | (rw [if_pos (by decide +kernel)]; kernel_rfl) | (rw [if_neg (by decide +kernel)]; exact ⟨rfl, rfl⟩))
    (fun os started H enc _ => lifted os started H enc)
#print axioms proved
end rowFnExactPictureText
end Go.Proofs.Ytpopipacegkkbaa
