/- The statement FnExactPictureOf is proved here. Conditions: none beyond those that the statement itself makes. -/
import Derived.Test.YtadnfocbfabjnaaRow
import Derived.Test.YtadnfocbfabjnaaPicL
import Derived.Test.YtadnfocbfabjnaaNbr
set_option linter.unusedVariables false
set_option maxRecDepth 100000
set_option maxHeartbeats 4000000
namespace Go.Proofs.Ytadnfocbfabjnaa
open Go Go.RowKit
theorem walkPO (P : Nat → Int) (b : Bool) (n : Nat) (g : Nat → Int) (vv : Value) (hn : n ≤ 1048576)
    (hS : ∀ B v w, w.ownsRow B 122 9 v n (Gl (n * 9) g) → Calls Try.prog 38 #[v] w fun e w' => e = .returned (.tuple #[.agg (av 36 P), .bool b]) ∧ Ext w w')
    (hI : ∀ B v w, w.ownsRow B 122 9 v n (Gl (n * 9) g) → Calls Try.prog 40 #[v] w fun e w' => e = .returned (.tuple #[.agg (av 36 P), .bool b]) ∧ Ext w w') (w : World) (hr : Raw w vv n 9 g) :
    Calls Try.prog 4 #[vv] w fun e w' => e = .returned (.bool true) ∧ Ext w w' := by
  have HS := Lib.hid hS
  have HI := Lib.hid hI
  have HR0 := Lib.hid hr
  have hl : (0 : Int) ≤ 1048576 - (n : Int) := by omega
  clear hS hI hr
  skip
  have tk0 := Lib.hid True.intro; have tk1 := Lib.hid True.intro; have tk2 := Lib.hid True.intro
  go_enter Try.func4, Try.ntmps4
  go_wp2_with (first | (go_at_call 37; refine (szPrintS_n n 9 g vv _ (raw_ext HR0.out (by (repeat' (first | (with_reducible exact Ext.refl _) | (with_reducible assumption) | (with_reducible refine Ext.alloc ?_ _) | (with_reducible refine Ext.drew ?_) | (with_reducible refine Ext.drewN ?_ _) | (with_reducible refine Ext.setCell ?_ ?_ _) | (with_reducible refine Ext.trans ?_ (by assumption)))) <;> (first | (with_reducible assumption) | omega | (simp; done) | (simp; omega)))) hn).mono ?_; rintro e w1 ⟨rfl, hE⟩) | (clear tk0; (go_at_call 39; refine (toPrintS_n n g vv _ (raw_ext HR0.out (by (repeat' (first | (with_reducible exact Ext.refl _) | (with_reducible assumption) | (with_reducible refine Ext.alloc ?_ _) | (with_reducible refine Ext.drew ?_) | (with_reducible refine Ext.drewN ?_ _) | (with_reducible refine Ext.setCell ?_ ?_ _) | (with_reducible refine Ext.trans ?_ (by assumption)))) <;> (first | (with_reducible assumption) | omega | (simp; done) | (simp; omega)))) hn).mono ?_; rintro e w1 ⟨v0, rfl, hE, ho⟩; have HW := Lib.hid ho; clear ho)) | (go_at_call 38; refine (HS.out _ _ _ HW.out).mono ?_; rintro e w1 ⟨rfl, hE⟩; skip; obtain ⟨wa, rfl⟩ : ∃ x, x = w1 := ⟨_, rfl⟩) | (clear tk1; (refine wpList_alloc_av rfl (makesIP rfl) ?_; (try go_simp))) | (clear tk2; ((refine wpList_store_new rfl rfl rfl rfl (b := wa.heap.size) (Big.new wa 57 36 (fun _ => 0) rfl) (szz6 _ _ _) (szIP _) (av_one _ _) ?_; intro w1 hO hN; (try go_simp)); have hE : Ext wa w1 := hO.ext (by (repeat' (first | (with_reducible exact Ext.refl _) | (with_reducible assumption) | (with_reducible refine Ext.alloc ?_ _) | (with_reducible refine Ext.drew ?_) | (with_reducible refine Ext.drewN ?_ _) | (with_reducible refine Ext.setCell ?_ ?_ _) | (with_reducible refine Ext.trans ?_ (by assumption)))) <;> (first | (with_reducible assumption) | omega | (simp; done) | (simp; omega))) (by omega); skip; have HB0 := Lib.hid (show Big w1 wa.heap.size 57 36 P from hN); clear hO hN; obtain ⟨wb, rfl⟩ : ∃ x, x = w1 := ⟨_, rfl⟩)))
  skip
  go_wp2_with (first | (go_at_call 39; refine (toPrintS_n n g vv _ (raw_ext HR0.out (by (repeat' (first | (with_reducible exact Ext.refl _) | (with_reducible assumption) | (with_reducible refine Ext.alloc ?_ _) | (with_reducible refine Ext.drew ?_) | (with_reducible refine Ext.drewN ?_ _) | (with_reducible refine Ext.setCell ?_ ?_ _) | (with_reducible refine Ext.trans ?_ (by assumption)))) <;> (first | (with_reducible assumption) | omega | (simp; done) | (simp; omega)))) hn).mono ?_; rintro e w1 ⟨x0, rfl, hE, ho⟩; replace HB0 := Lib.hid ((show Big _ (wa.heap.size) 57 36 (P) by first | exact HB0.out | exact Big.new36 _ _ (by first | rfl | (simp; done) | (simp; omega)) | exact Big.new _ _ _ _ (by first | rfl | (simp; done) | (simp; omega)) | exact (Big.new _ _ _ _ (by first | rfl | (simp; done) | (simp; omega))).ext ((Ext.refl _).alloc _) | exact ((Big.new _ _ _ _ (by first | rfl | (simp; done) | (simp; omega))).ext ((Ext.refl _).alloc _)).ext ((Ext.refl _).alloc _)).ext hE); have HX := Lib.hid ho; clear ho) | (go_at_call 40; refine (HI.out _ _ _ (own_ext HX.out (by (repeat' (first | (with_reducible exact Ext.refl _) | (with_reducible assumption) | (with_reducible refine Ext.alloc ?_ _) | (with_reducible refine Ext.drew ?_) | (with_reducible refine Ext.drewN ?_ _) | (with_reducible refine Ext.setCell ?_ ?_ _) | (with_reducible refine Ext.trans ?_ (by assumption)))) <;> (first | (with_reducible assumption) | omega | (simp; done) | (simp; omega))))).mono ?_; rintro e w1 ⟨rfl, hE⟩; skip; replace HB0 := Lib.hid ((show Big _ (wa.heap.size) 57 36 (P) by first | exact HB0.out | exact Big.new36 _ _ (by first | rfl | (simp; done) | (simp; omega)) | exact Big.new _ _ _ _ (by first | rfl | (simp; done) | (simp; omega)) | exact (Big.new _ _ _ _ (by first | rfl | (simp; done) | (simp; omega))).ext ((Ext.refl _).alloc _) | exact ((Big.new _ _ _ _ (by first | rfl | (simp; done) | (simp; omega))).ext ((Ext.refl _).alloc _)).ext ((Ext.refl _).alloc _)).ext hE); obtain ⟨wc, rfl⟩ : ∃ x, x = w1 := ⟨_, rfl⟩) | (refine wpList_alloc_av rfl (makesIP rfl) ?_; (try go_simp)) | ((refine wpList_store_new rfl rfl rfl rfl (b := wc.heap.size) (Big.new wc 57 36 (fun _ => 0) rfl) (szz6 _ _ _) (szIP _) (av_one _ _) ?_; intro w1 hO hN; (try go_simp)); have hE : Ext wc w1 := hO.ext (by (repeat' (first | (with_reducible exact Ext.refl _) | (with_reducible assumption) | (with_reducible refine Ext.alloc ?_ _) | (with_reducible refine Ext.drew ?_) | (with_reducible refine Ext.drewN ?_ _) | (with_reducible refine Ext.setCell ?_ ?_ _) | (with_reducible refine Ext.trans ?_ (by assumption)))) <;> (first | (with_reducible assumption) | omega | (simp; done) | (simp; omega))) (by omega); skip; replace HB0 := Lib.hid ((show Big _ (wa.heap.size) 57 36 (P) by first | exact HB0.out | exact Big.new36 _ _ (by first | rfl | (simp; done) | (simp; omega)) | exact Big.new _ _ _ _ (by first | rfl | (simp; done) | (simp; omega)) | exact (Big.new _ _ _ _ (by first | rfl | (simp; done) | (simp; omega))).ext ((Ext.refl _).alloc _) | exact ((Big.new _ _ _ _ (by first | rfl | (simp; done) | (simp; omega))).ext ((Ext.refl _).alloc _)).ext ((Ext.refl _).alloc _)).ext hE); have HB1 := Lib.hid (show Big w1 wc.heap.size 57 36 P from hN); clear hO hN; obtain ⟨wd, rfl⟩ : ∃ x, x = w1 := ⟨_, rfl⟩) | (refine wpList_load_row rfl 57 (.tmp 7) rfl _ rfl _ _ _ _ HB1.out Try.underlying57 rfl (szIP _) ?_; (try go_simp)) | (refine wpList_load_row rfl 57 (.tmp 4) rfl _ rfl _ _ _ _ HB0.out Try.underlying57 rfl (szIP _) ?_; (try go_simp)) | (go_at_call 41; refine (eqPicture_same _ _).mono ?_; rintro e w1 ⟨rfl, hE⟩))
  skip
  go_wp2_with (first | (go_at_call 39; refine (toPrintS_n n g vv _ (raw_ext HR0.out (by (repeat' (first | (with_reducible exact Ext.refl _) | (with_reducible assumption) | (with_reducible refine Ext.alloc ?_ _) | (with_reducible refine Ext.drew ?_) | (with_reducible refine Ext.drewN ?_ _) | (with_reducible refine Ext.setCell ?_ ?_ _) | (with_reducible refine Ext.trans ?_ (by assumption)))) <;> (first | (with_reducible assumption) | omega | (simp; done) | (simp; omega)))) hn).mono ?_; rintro e w1 ⟨y0, rfl, hE, ho⟩; have HY := Lib.hid ho; clear ho) | (go_at_call 42; refine (eqPrintS_n _ _ n g _ _ _ (by omega) (own_ext HX.out (by (repeat' (first | (with_reducible exact Ext.refl _) | (with_reducible assumption) | (with_reducible refine Ext.alloc ?_ _) | (with_reducible refine Ext.drew ?_) | (with_reducible refine Ext.drewN ?_ _) | (with_reducible refine Ext.setCell ?_ ?_ _) | (with_reducible refine Ext.trans ?_ (by assumption)))) <;> (first | (with_reducible assumption) | omega | (simp; done) | (simp; omega)))) HY.out).mono ?_; rintro e w1 ⟨rfl, hE⟩))
  go_ret
  exact ⟨rfl, (by (repeat' (first | (with_reducible exact Ext.refl _) | (with_reducible assumption) | (with_reducible refine Ext.alloc ?_ _) | (with_reducible refine Ext.drew ?_) | (with_reducible refine Ext.drewN ?_ _) | (with_reducible refine Ext.setCell ?_ ?_ _) | (with_reducible refine Ext.trans ?_ (by assumption)))) <;> (first | (with_reducible assumption) | omega | (simp; done) | (simp; omega)))⟩
theorem walk_FnExactPictureOf (w : World) (v_0 : Value) (n_0 : Nat) (g_0 : Nat → Int) (hr_0 : Raw w v_0 n_0 9 g_0) (hn_0 : n_0 ≤ 9223372036854775807) (b_0 : ∀ j, j < n_0 * 9 → -9223372036854775808 ≤ g_0 j ∧ g_0 j ≤ 9223372036854775807) : Calls Try.prog 4 #[v_0] w fun e w' => e = .returned (.bool true) ∧ Ext w w' := by
  clear b_0
  by_cases hb : n_0 ≤ 1048576
  · rcases first_bad (fun j => prB (rowG g_0 j)) n_0 with hg | ⟨j0, hj0, hok, hg⟩
    · by_cases h6 : n_0 ≤ 6
      · exact walkPO (picL (laysG g_0 n_0)) true n_0 g_0 v_0 hb (fun B v w ho => sPictureOf_ok n_0 g_0 h6 hg B v w ho) (fun B v w ho => PictureOf_ok n_0 g_0 h6 hg B v w ho) w hr_0
      · exact walkPO (fun _ => 0) false n_0 g_0 v_0 hb (fun B v w ho => sPictureOf_bad n_0 0 g_0 hb (by omega) (fun j hj => absurd hj (by omega)) (.inr (.inr (by omega))) B v w ho) (fun B v w ho => PictureOf_many n_0 g_0 hb (by omega) hg B v w ho) w hr_0
    · exact walkPO (fun _ => 0) false n_0 g_0 v_0 hb (fun B v w ho => sPictureOf_bad n_0 j0 g_0 hb hj0 hg (.inr (.inl hok)) B v w ho) (fun B v w ho => PictureOf_bad n_0 j0 g_0 hb hj0 hg hok B v w ho) w hr_0
  · have HR0 := Lib.hid hr_0
    clear hr_0
    skip
    go_enter Try.func4, Try.ntmps4
    go_wp2_with ((go_at_call 37; refine (szPrintS_big n_0 9 g_0 v_0 _ (raw_ext HR0.out (by (repeat' (first | (with_reducible exact Ext.refl _) | (with_reducible assumption) | (with_reducible refine Ext.alloc ?_ _) | (with_reducible refine Ext.drew ?_) | (with_reducible refine Ext.drewN ?_ _) | (with_reducible refine Ext.setCell ?_ ?_ _) | (with_reducible refine Ext.trans ?_ (by assumption)))) <;> (first | (with_reducible assumption) | omega | (simp; done) | (simp; omega)))) (by omega) hn_0).mono ?_; rintro e w1 ⟨rfl, hE⟩))
    go_ret
    exact ⟨rfl, (by (repeat' (first | (with_reducible exact Ext.refl _) | (with_reducible assumption) | (with_reducible refine Ext.alloc ?_ _) | (with_reducible refine Ext.drew ?_) | (with_reducible refine Ext.drewN ?_ _) | (with_reducible refine Ext.setCell ?_ ?_ _) | (with_reducible refine Ext.trans ?_ (by assumption)))) <;> (first | (with_reducible assumption) | omega | (simp; done) | (simp; omega)))⟩
namespace rowFnExactPictureOf
open Go.ChangeShapes Go.WideShapes Go.ChangeAt Go.RowKit
set_option maxRecDepth 100000 in
theorem lifted (os : Os) (started : os.Started) (H : Type) (enc : TypeId × Value → H) :
    ReturnsInHanded {} Try.checked os 4 .any (Rows.fnExactPictureOfSpec.pre6 enc Try.prog Try.f4 Rows.fnExactPictureOfRow.domain false) (Rows.fnExactPictureOfSpec.post enc Try.prog Try.f4 false true false false) := by
  refine returnsInHanded_of_change (C := Try.checked) own started (by kernel_rfl) Try.func4
    (ChangeSpec.witness6 (enc := enc) (C := Try.checked) false ⟨#[], #[.slice none 0 0], []⟩ 8 (by kernel_rfl) (by kernel_rfl) (by kernel_rfl) (by kernel_rfl)) ?_
  intro W base args ds gs before hval0 hW hcnd _
  have hval : ∀ (j : Nat) t v, Try.f4.params[j]? = some t → args[j]? = some v → Value.okWide Try.prog W .any base t v := hval0
  have hW' := hW
  obtain ⟨p, q, hA0, hV, rfl, hfz, hnd⟩ := hW
  have hA : DataW.TrodAll enc Try.prog W 0 (fun _ => true) true Try.f4.params.toList args.toList ds p := hA0
  rw [Try.params4] at hA hval
  obtain ⟨v0, vs0, d0, ds0, p0, q0, hargs, rfl, rfl, h0, r0⟩ := trodAll_cons hA
  obtain ⟨rfl, rfl, rfl⟩ := trodAll_nil r0
  obtain rfl : args = #[v0] := by cases args; simp_all
  obtain ⟨rfl, rfl⟩ := trodVars_none hV
  obtain ⟨n_0, g_0, hr_0, hn_0, b_0⟩ := open_raw Try.underlying53 ic_pr cells_pr (by omega) (hval 0 53 v0 rfl rfl) h0
  clear hA0 hval0
  refine (walk_FnExactPictureOf W v0 n_0 g_0 hr_0 hn_0 b_0).mono fun e W' ⟨he, hx⟩ => ?_
  subst he
  exact ⟨_, rfl, post_law laidOut hW' rfl rfl rfl rfl rfl Try.underlying4 (by rw [Try.params4]; intro t ht; simp at ht; first | (rcases ht with rfl | rfl | rfl | rfl <;> exact ⟨by kernel_rfl, of_decide_eq_true (by kernel_rfl)⟩) | (rcases ht with rfl | rfl | rfl <;> exact ⟨by kernel_rfl, of_decide_eq_true (by kernel_rfl)⟩) | (rcases ht with rfl | rfl <;> exact ⟨by kernel_rfl, of_decide_eq_true (by kernel_rfl)⟩) | (subst ht; exact ⟨by kernel_rfl, of_decide_eq_true (by kernel_rfl)⟩)) hx⟩
theorem proved : Rows.FnExactPictureOfSaid :=
  OpenClaim.holds_of_wide 4 Try.f4 rfl rfl rfl rfl rfl rfl rfl ⟨rfl, rfl, rfl, rfl, rfl⟩ rfl rfl rfl rfl rfl (by kernel_rfl) Try.func4 (by kernel_rfl)
    (of_decide_eq_true (by kernel_rfl)) (by unfold Func.isWrapper; first | (rw [if_pos (by decide +kernel)]; kernel_rfl) | (rw [if_neg (by decide +kernel)]; exact ⟨rfl, rfl⟩))
    (fun os started H enc _ => lifted os started H enc)
#print axioms proved
end rowFnExactPictureOf
end Go.Proofs.Ytadnfocbfabjnaa
