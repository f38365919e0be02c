/- The statement FnExactSwapPrints is proved here. Conditions: none beyond those that the statement itself makes. -/
import Derived.Test.YtadnfocbfabjnaaRow
import Derived.Test.YtadnfocbfabjnaaPicW
import Derived.Test.YtadnfocbfabjnaaNbr
set_option linter.unusedVariables false
set_option maxRecDepth 100000
set_option maxHeartbeats 4000000
namespace Go.Proofs.Ytadnfocbfabjnaa
open Go Go.RowKit
theorem walkSP (a b : Bool) (i : Int) (n : Nat) (g : Nat → Int) (vv : Value) (hn : n ≤ 1048576)
    (hS : ∀ B v w, w.ownsRow B 122 9 v n (Gl (n * 9) g) → Calls Try.prog 43 #[v, .int .i64 i] w fun e w' => e = .returned (.tuple #[.bool a, .bool b]) ∧ Ext w w')
    (hI : ∀ B v w, w.ownsRow B 122 9 v n (Gl (n * 9) g) → Calls Try.prog 44 #[v, .int .i64 i] w fun e w' => e = .returned (.tuple #[.bool a, .bool b]) ∧ Ext w w') (w : World) (hr : Raw w vv n 9 g) :
    Calls Try.prog 5 #[vv, .int .i64 i] w fun e w' => e = .returned (.bool true) ∧ Ext w w' := by
  have HS := Lib.hid hS
  have HI := Lib.hid hI
  have HR0 := Lib.hid hr
  have hl : (0 : Int) ≤ 1048576 - (n : Int) := by omega
  clear hS hI hr
  skip
  cases a <;> cases b
  all_goals
    have tk0 := Lib.hid True.intro; have tk1 := Lib.hid True.intro
    go_enter Try.func5, Try.ntmps5
    go_wp2_with (first | (go_at_call 37; refine (szPrintS_n n 9 g vv _ (raw_ext HR0.out (by (repeat' (first | (with_reducible exact Ext.refl _) | (with_reducible assumption) | (with_reducible refine Ext.alloc ?_ _) | (with_reducible refine Ext.drew ?_) | (with_reducible refine Ext.drewN ?_ _) | (with_reducible refine Ext.setCell ?_ ?_ _) | (with_reducible refine Ext.trans ?_ (by assumption)))) <;> (first | (with_reducible assumption) | omega | (simp; done) | (simp; omega)))) hn).mono ?_; rintro e w1 ⟨rfl, hE⟩) | (clear tk0; (go_at_call 39; refine (toPrintS_n n g vv _ (raw_ext HR0.out (by (repeat' (first | (with_reducible exact Ext.refl _) | (with_reducible assumption) | (with_reducible refine Ext.alloc ?_ _) | (with_reducible refine Ext.drew ?_) | (with_reducible refine Ext.drewN ?_ _) | (with_reducible refine Ext.setCell ?_ ?_ _) | (with_reducible refine Ext.trans ?_ (by assumption)))) <;> (first | (with_reducible assumption) | omega | (simp; done) | (simp; omega)))) hn).mono ?_; rintro e w1 ⟨v0, rfl, hE, ho⟩; have HW := Lib.hid ho; clear ho)) | (go_at_call 43; refine (HS.out _ _ _ HW.out).mono ?_; rintro e w1 ⟨rfl, hE⟩) | (clear tk1; (go_at_call 39; refine (toPrintS_n n g vv _ (raw_ext HR0.out (by (repeat' (first | (with_reducible exact Ext.refl _) | (with_reducible assumption) | (with_reducible refine Ext.alloc ?_ _) | (with_reducible refine Ext.drew ?_) | (with_reducible refine Ext.drewN ?_ _) | (with_reducible refine Ext.setCell ?_ ?_ _) | (with_reducible refine Ext.trans ?_ (by assumption)))) <;> (first | (with_reducible assumption) | omega | (simp; done) | (simp; omega)))) hn).mono ?_; rintro e w1 ⟨x0, rfl, hE, ho⟩; have HX := Lib.hid ho; clear ho)) | (go_at_call 44; refine (HI.out _ _ _ (own_ext HX.out (by (repeat' (first | (with_reducible exact Ext.refl _) | (with_reducible assumption) | (with_reducible refine Ext.alloc ?_ _) | (with_reducible refine Ext.drew ?_) | (with_reducible refine Ext.drewN ?_ _) | (with_reducible refine Ext.setCell ?_ ?_ _) | (with_reducible refine Ext.trans ?_ (by assumption)))) <;> (first | (with_reducible assumption) | omega | (simp; done) | (simp; omega))))).mono ?_; rintro e w1 ⟨rfl, hE⟩) | (go_at_call 39; refine (toPrintS_n n g vv _ (raw_ext HR0.out (by (repeat' (first | (with_reducible exact Ext.refl _) | (with_reducible assumption) | (with_reducible refine Ext.alloc ?_ _) | (with_reducible refine Ext.drew ?_) | (with_reducible refine Ext.drewN ?_ _) | (with_reducible refine Ext.setCell ?_ ?_ _) | (with_reducible refine Ext.trans ?_ (by assumption)))) <;> (first | (with_reducible assumption) | omega | (simp; done) | (simp; omega)))) hn).mono ?_; rintro e w1 ⟨y0, rfl, hE, ho⟩; have HY := Lib.hid ho; clear ho) | (go_at_call 42; refine (eqPrintS_n _ _ n g _ _ _ (by omega) (own_ext HX.out (by (repeat' (first | (with_reducible exact Ext.refl _) | (with_reducible assumption) | (with_reducible refine Ext.alloc ?_ _) | (with_reducible refine Ext.drew ?_) | (with_reducible refine Ext.drewN ?_ _) | (with_reducible refine Ext.setCell ?_ ?_ _) | (with_reducible refine Ext.trans ?_ (by assumption)))) <;> (first | (with_reducible assumption) | omega | (simp; done) | (simp; omega)))) HY.out).mono ?_; rintro e w1 ⟨rfl, hE⟩))
    go_ret
    exact ⟨rfl, (by (repeat' (first | (with_reducible exact Ext.refl _) | (with_reducible assumption) | (with_reducible refine Ext.alloc ?_ _) | (with_reducible refine Ext.drew ?_) | (with_reducible refine Ext.drewN ?_ _) | (with_reducible refine Ext.setCell ?_ ?_ _) | (with_reducible refine Ext.trans ?_ (by assumption)))) <;> (first | (with_reducible assumption) | omega | (simp; done) | (simp; omega)))⟩
theorem walk_FnExactSwapPrints (w : World) (v_0 : Value) (n_0 : Nat) (g_0 : Nat → Int) (hr_0 : Raw w v_0 n_0 9 g_0) (hn_0 : n_0 ≤ 9223372036854775807) (b_0 : ∀ j, j < n_0 * 9 → -9223372036854775808 ≤ g_0 j ∧ g_0 j ≤ 9223372036854775807) (i_1 : Int) (b_1 : -9223372036854775808 ≤ i_1 ∧ i_1 ≤ 9223372036854775807) : Calls Try.prog 5 #[v_0, .int .i64 i_1] w fun e w' => e = .returned (.bool true) ∧ Ext w w' := by
  clear b_0
  by_cases hb : n_0 ≤ 1048576
  · rcases first_bad (fun j => prB (rowG g_0 j)) n_0 with hg | ⟨j0, hj0, hok, hg⟩
    · by_cases h6 : n_0 ≤ 6
      · cases hi : inR i_1 0 ((n_0 : Int) - 2)
        · exact walkSP false false i_1 n_0 g_0 v_0 hb (fun B v w ho => sSwapPrints_out n_0 i_1 g_0 h6 hi hg B v w ho) (fun B v w ho => SwapPrints_out n_0 i_1 g_0 hb b_1 (.inr fun h => by rw [(inR_iff _ _ _).2 h] at hi; cases hi) hg B v w ho) w hr_0
        · obtain ⟨h0, h1⟩ := (inR_iff _ _ _).1 hi
          obtain ⟨k, rfl⟩ : ∃ k : Nat, i_1 = (k : Int) := ⟨i_1.toNat, by omega⟩
          exact walkSP _ true (k : Int) n_0 g_0 v_0 hb (fun B v w ho => sSwapPrints_ok n_0 k g_0 h6 (by omega) hg B v w ho) (fun B v w ho => by rw [eq36_comm]; exact SwapPrints_ok n_0 k g_0 h6 (by omega) hg B v w ho) w hr_0
      · exact walkSP false false i_1 n_0 g_0 v_0 hb (fun B v w ho => sSwapPrints_bad n_0 0 i_1 g_0 hb (by omega) (fun j hj => absurd hj (by omega)) (.inr (.inr (by omega))) B v w ho) (fun B v w ho => SwapPrints_out n_0 i_1 g_0 hb b_1 (.inl (by omega)) hg B v w ho) w hr_0
    · exact walkSP false false i_1 n_0 g_0 v_0 hb (fun B v w ho => sSwapPrints_bad n_0 j0 i_1 g_0 hb hj0 hg (.inr (.inl hok)) B v w ho) (fun B v w ho => SwapPrints_bad n_0 j0 i_1 g_0 hb b_1 hj0 hg hok B v w ho) w hr_0
  · have HR0 := Lib.hid hr_0
    clear hr_0
    skip
    go_enter Try.func5, Try.ntmps5
    go_wp2_with ((go_at_call 37; refine (szPrintS_big n_0 9 g_0 v_0 _ (raw_ext HR0.out (by (repeat' (first | (with_reducible exact Ext.refl _) | (with_reducible assumption) | (with_reducible refine Ext.alloc ?_ _) | (with_reducible refine Ext.drew ?_) | (with_reducible refine Ext.drewN ?_ _) | (with_reducible refine Ext.setCell ?_ ?_ _) | (with_reducible refine Ext.trans ?_ (by assumption)))) <;> (first | (with_reducible assumption) | omega | (simp; done) | (simp; omega)))) (by omega) hn_0).mono ?_; rintro e w1 ⟨rfl, hE⟩))
    go_ret
    exact ⟨rfl, (by (repeat' (first | (with_reducible exact Ext.refl _) | (with_reducible assumption) | (with_reducible refine Ext.alloc ?_ _) | (with_reducible refine Ext.drew ?_) | (with_reducible refine Ext.drewN ?_ _) | (with_reducible refine Ext.setCell ?_ ?_ _) | (with_reducible refine Ext.trans ?_ (by assumption)))) <;> (first | (with_reducible assumption) | omega | (simp; done) | (simp; omega)))⟩
namespace rowFnExactSwapPrints
open Go.ChangeShapes Go.WideShapes Go.ChangeAt Go.RowKit
set_option maxRecDepth 100000 in
theorem lifted (os : Os) (started : os.Started) (H : Type) (enc : TypeId × Value → H) :
    ReturnsInHanded {} Try.checked os 5 .any (Rows.fnExactSwapPrintsSpec.pre6 enc Try.prog Try.f5 Rows.fnExactSwapPrintsRow.domain false) (Rows.fnExactSwapPrintsSpec.post enc Try.prog Try.f5 false true false false) := by
  refine returnsInHanded_of_change (C := Try.checked) own started (by kernel_rfl) Try.func5
    (ChangeSpec.witness6 (enc := enc) (C := Try.checked) false ⟨#[], #[.slice none 0 0, .int .i64 0], []⟩ 8 (by kernel_rfl) (by kernel_rfl) (by kernel_rfl) (by kernel_rfl)) ?_
  intro W base args ds gs before hval0 hW hcnd _
  have hval : ∀ (j : Nat) t v, Try.f5.params[j]? = some t → args[j]? = some v → Value.okWide Try.prog W .any base t v := hval0
  have hW' := hW
  obtain ⟨p, q, hA0, hV, rfl, hfz, hnd⟩ := hW
  have hA : DataW.TrodAll enc Try.prog W 0 (fun _ => true) true Try.f5.params.toList args.toList ds p := hA0
  rw [Try.params5] at hA hval
  obtain ⟨v0, vs0, d0, ds0, p0, q0, hargs, rfl, rfl, h0, r0⟩ := trodAll_cons hA
  obtain ⟨v1, vs1, d1, ds1, p1, q1, rfl, rfl, rfl, h1, r1⟩ := trodAll_cons r0
  obtain ⟨rfl, rfl, rfl⟩ := trodAll_nil r1
  obtain rfl : args = #[v0, v1] := by cases args; simp_all
  obtain ⟨rfl, rfl⟩ := trodVars_none hV
  obtain ⟨n_0, g_0, hr_0, hn_0, b_0⟩ := open_raw Try.underlying53 ic_pr cells_pr (by omega) (hval 0 53 v0 rfl rfl) h0
  obtain ⟨i_1, rfl, b_1⟩ := open_i (hval 1 3 v1 rfl rfl) h1
  clear hA0 hval0
  refine (walk_FnExactSwapPrints W v0 n_0 g_0 hr_0 hn_0 b_0 i_1 b_1).mono fun e W' ⟨he, hx⟩ => ?_
  subst he
  exact ⟨_, rfl, post_law laidOut hW' rfl rfl rfl rfl rfl Try.underlying4 (by rw [Try.params5]; intro t ht; simp at ht; first | (rcases ht with rfl | rfl | rfl | rfl <;> exact ⟨by kernel_rfl, of_decide_eq_true (by kernel_rfl)⟩) | (rcases ht with rfl | rfl | rfl <;> exact ⟨by kernel_rfl, of_decide_eq_true (by kernel_rfl)⟩) | (rcases ht with rfl | rfl <;> exact ⟨by kernel_rfl, of_decide_eq_true (by kernel_rfl)⟩) | (subst ht; exact ⟨by kernel_rfl, of_decide_eq_true (by kernel_rfl)⟩)) hx⟩
theorem proved : Rows.FnExactSwapPrintsSaid :=
  OpenClaim.holds_of_wide 5 Try.f5 rfl rfl rfl rfl rfl rfl rfl ⟨rfl, rfl, rfl, rfl, rfl⟩ rfl rfl rfl rfl rfl (by kernel_rfl) Try.func5 (by kernel_rfl)
    (of_decide_eq_true (by kernel_rfl)) (by unfold Func.isWrapper; first | (rw [if_pos (by decide +kernel)]; kernel_rfl) | (rw [if_neg (by decide +kernel)]; exact ⟨rfl, rfl⟩))
    (fun os started H enc _ => lifted os started H enc)
#print axioms proved
end rowFnExactSwapPrints
end Go.Proofs.Ytadnfocbfabjnaa
