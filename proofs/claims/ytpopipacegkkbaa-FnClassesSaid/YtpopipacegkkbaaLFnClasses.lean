/- The statement FnClasses is proved here. Conditions: none beyond those that the statement itself makes. -/
import Derived.Test.YtpopipacegkkbaaFCls
import Derived.Test.YtpopipacegkkbaaRow
import Derived.Test.YtpopipacegkkbaaConv
set_option linter.unusedVariables false
set_option maxRecDepth 100000
set_option maxHeartbeats 16000000
namespace Go.Proofs.Ytpopipacegkkbaa
open Go Go.RowKit Instr
theorem walkFC (v : Value) (n : Nat) (hn : n ≤ 65536) (hcap : capOk v) (w : World) (hr : Byt w w.heap.size v n) : Calls Try.prog 5 #[v] w fun e w' => e = .returned (.bool true) ∧ Ext w w' := by
  have HR0 := Lib.hid hr
  have HCAP := Lib.hid hcap
  obtain ⟨ao, cap, rfl, _⟩ := hr
  clear hcap
  have HVB := Lib.hid (fun w => vBig_n false ao n cap (by simp; omega) w)
  skip
  have tk0 := Lib.hid True.intro; have tk1 := Lib.hid True.intro; have tk2 := Lib.hid True.intro; have tk3 := Lib.hid True.intro; have tk4 := Lib.hid True.intro
  go_enter Try.func5, Try.ntmps5
  go_wp2_with (first
    | (go_at_call 15; refine (HVB.out _).mono ?_; rintro e w1 ⟨rfl, hE⟩)
    | (clear tk0; (go_at_call 16; refine (drawCountKept_n _ n _ (byt_mono (byt_ext HR0.out (Nat.le_refl _) (by (repeat' (first | (with_reducible exact Ext.refl _) | (with_reducible assumption) | (with_reducible refine Ext.alloc ?_ _) | (with_reducible refine Ext.drew ?_) | (with_reducible refine Ext.drewN ?_ _) | (with_reducible refine Ext.setCell ?_ ?_ _) | (with_reducible refine Ext.trans ?_ (by assumption)))) <;> (first | (with_reducible assumption) | omega | (simp; done) | (simp; omega)))) (Ext.size (by (repeat' (first | (with_reducible exact Ext.refl _) | (with_reducible assumption) | (with_reducible refine Ext.alloc ?_ _) | (with_reducible refine Ext.drew ?_) | (with_reducible refine Ext.drewN ?_ _) | (with_reducible refine Ext.setCell ?_ ?_ _) | (with_reducible refine Ext.trans ?_ (by assumption)))) <;> (first | (with_reducible assumption) | omega | (simp; done) | (simp; omega)))))).mono ?_; rintro e w1 ⟨x, y, s, rfl, hE, hx, hy, hs⟩; have hx1 : Ext w w1 := (by (repeat' (first | (with_reducible exact Ext.refl _) | (with_reducible assumption) | (with_reducible refine Ext.alloc ?_ _) | (with_reducible refine Ext.drew ?_) | (with_reducible refine Ext.drewN ?_ _) | (with_reducible refine Ext.setCell ?_ ?_ _) | (with_reducible refine Ext.trans ?_ (by assumption)))) <;> (first | (with_reducible assumption) | omega | (simp; done) | (simp; omega))); skip; obtain ⟨K, O, b1, b2, h1, h2, h3, h4, hcase⟩ := facts1 x y s hs; have HCK := Lib.hid h1; have HSK := Lib.hid h2; have HOO := Lib.hid h3; have HSO := Lib.hid h4; have HCS := Lib.hid hcase; clear h1 h2 h3 h4 hx hy hcase; have HX0 := Lib.hid hx1; clear hE; obtain ⟨wa, rfl⟩ : ∃ x, x = w1 := ⟨_, rfl⟩))
    | (clear tk1; (skip; (go_at_call 17; refine (HCK.out _).mono ?_; rintro e w1 ⟨rfl, hE⟩; replace k0_0 : w1.cell? ⟨wa.heap.size, 0, none⟩ = some (.int .i64 (x)) := (hE.cells _ _ (by first | exact l0 | (simp; done) | (simp; omega))).trans (by first | exact k0_0 | (go_simp; done)); replace k0_1 : w1.cell? ⟨wa.heap.size, 1, none⟩ = some (.int .i64 (y)) := (hE.cells _ _ (by first | exact l0 | (simp; done) | (simp; omega))).trans (by first | exact k0_1 | (go_simp; done)); replace l0 : wa.heap.size < w1.heap.size := Nat.lt_of_lt_of_le (by first | exact l0 | (simp; done) | (simp; omega)) hE.size)))
    | (go_at_call 18; refine (HSK.out _).mono ?_; rintro e w1 ⟨rfl, hE⟩; replace k0_0 : w1.cell? ⟨wa.heap.size, 0, none⟩ = some (.int .i64 (x)) := (hE.cells _ _ (by first | exact l0 | (simp; done) | (simp; omega))).trans (by first | exact k0_0 | (go_simp; done)); replace k0_1 : w1.cell? ⟨wa.heap.size, 1, none⟩ = some (.int .i64 (y)) := (hE.cells _ _ (by first | exact l0 | (simp; done) | (simp; omega))).trans (by first | exact k0_1 | (go_simp; done)); replace l0 : wa.heap.size < w1.heap.size := Nat.lt_of_lt_of_le (by first | exact l0 | (simp; done) | (simp; omega)) hE.size)
    | (go_at_call 19; refine (HOO.out _).mono ?_; rintro e w1 ⟨rfl, hE⟩; replace k0_0 : w1.cell? ⟨wa.heap.size, 0, none⟩ = some (.int .i64 (x)) := (hE.cells _ _ (by first | exact l0 | (simp; done) | (simp; omega))).trans (by first | exact k0_0 | (go_simp; done)); replace k0_1 : w1.cell? ⟨wa.heap.size, 1, none⟩ = some (.int .i64 (y)) := (hE.cells _ _ (by first | exact l0 | (simp; done) | (simp; omega))).trans (by first | exact k0_1 | (go_simp; done)); replace l0 : wa.heap.size < w1.heap.size := Nat.lt_of_lt_of_le (by first | exact l0 | (simp; done) | (simp; omega)) hE.size)
    | (go_at_call 20; refine (HSO.out _).mono ?_; rintro e w1 ⟨rfl, hE⟩; replace k0_0 : w1.cell? ⟨wa.heap.size, 0, none⟩ = some (.int .i64 (x)) := (hE.cells _ _ (by first | exact l0 | (simp; done) | (simp; omega))).trans (by first | exact k0_0 | (go_simp; done)); replace k0_1 : w1.cell? ⟨wa.heap.size, 1, none⟩ = some (.int .i64 (y)) := (hE.cells _ _ (by first | exact l0 | (simp; done) | (simp; omega))).trans (by first | exact k0_1 | (go_simp; done)); replace l0 : wa.heap.size < w1.heap.size := Nat.lt_of_lt_of_le (by first | exact l0 | (simp; done) | (simp; omega)) hE.size)
    | (clear tk2; (go_at_call 22; refine (vCut_n 1 (by omega) _ n hn HCAP.out _ (byt_mono (byt_ext HR0.out (Nat.le_refl _) (by (repeat' (first | (with_reducible exact Ext.refl _) | (with_reducible assumption) | (with_reducible refine Ext.alloc ?_ _) | (with_reducible refine Ext.drew ?_) | (with_reducible refine Ext.drewN ?_ _) | (with_reducible refine Ext.setCell ?_ ?_ _) | (with_reducible refine Ext.trans ?_ (by assumption)))) <;> (first | (with_reducible assumption) | omega | (simp; done) | (simp; omega)))) (Ext.size (by (repeat' (first | (with_reducible exact Ext.refl _) | (with_reducible assumption) | (with_reducible refine Ext.alloc ?_ _) | (with_reducible refine Ext.drew ?_) | (with_reducible refine Ext.drewN ?_ _) | (with_reducible refine Ext.setCell ?_ ?_ _) | (with_reducible refine Ext.trans ?_ (by assumption)))) <;> (first | (with_reducible assumption) | omega | (simp; done) | (simp; omega)))))).mono ?_; rintro e w1 ⟨u, m, rfl, hE, hbu, hm⟩; obtain ⟨uo, uc, rfl, _⟩ := id hbu; have HBU := Lib.hid hbu; clear hbu; skip; replace k0_0 : w1.cell? ⟨wa.heap.size, 0, none⟩ = some (.int .i64 (x)) := (hE.cells _ _ (by first | exact l0 | (simp; done) | (simp; omega))).trans (by first | exact k0_0 | (go_simp; done)); replace k0_1 : w1.cell? ⟨wa.heap.size, 1, none⟩ = some (.int .i64 (y)) := (hE.cells _ _ (by first | exact l0 | (simp; done) | (simp; omega))).trans (by first | exact k0_1 | (go_simp; done)); replace l0 : wa.heap.size < w1.heap.size := Nat.lt_of_lt_of_le (by first | exact l0 | (simp; done) | (simp; omega)) hE.size; have hx2 : Ext w w1 := (by (repeat' (first | (with_reducible exact Ext.refl _) | (with_reducible assumption) | (with_reducible refine Ext.alloc ?_ _) | (with_reducible refine Ext.drew ?_) | (with_reducible refine Ext.drewN ?_ _) | (with_reducible refine Ext.setCell ?_ ?_ _) | (with_reducible refine Ext.trans ?_ (by assumption)))) <;> (first | (with_reducible assumption) | omega | (simp; done) | (simp; omega))); clear hE; obtain ⟨wb, rfl⟩ : ∃ x, x = w1 := ⟨_, rfl⟩))
    | (clear tk3; (go_at_call 21; refine (drawCountClasses_n _ m _ HBU.out).mono ?_; rintro e w1 ⟨z, rfl, hE, hz⟩; skip; replace k0_0 : w1.cell? ⟨wa.heap.size, 0, none⟩ = some (.int .i64 (x)) := (hE.cells _ _ (by first | exact l0 | (simp; done) | (simp; omega))).trans (by first | exact k0_0 | (go_simp; done)); replace k0_1 : w1.cell? ⟨wa.heap.size, 1, none⟩ = some (.int .i64 (y)) := (hE.cells _ _ (by first | exact l0 | (simp; done) | (simp; omega))).trans (by first | exact k0_1 | (go_simp; done)); replace l0 : wa.heap.size < w1.heap.size := Nat.lt_of_lt_of_le (by first | exact l0 | (simp; done) | (simp; omega)) hE.size; have hx3 : Ext w w1 := (by (repeat' (first | (with_reducible exact Ext.refl _) | (with_reducible assumption) | (with_reducible refine Ext.alloc ?_ _) | (with_reducible refine Ext.drew ?_) | (with_reducible refine Ext.drewN ?_ _) | (with_reducible refine Ext.setCell ?_ ?_ _) | (with_reducible refine Ext.trans ?_ (by assumption)))) <;> (first | (with_reducible assumption) | omega | (simp; done) | (simp; omega))); clear hE; obtain ⟨M, b3, h1, h2, hcase⟩ := facts2 z hz; have HCC := Lib.hid h1; have HSC := Lib.hid h2; have HCZ := Lib.hid hcase; clear h1 h2 hcase; obtain ⟨wc, rfl⟩ : ∃ x, x = w1 := ⟨_, rfl⟩; rcases HCS.out with ⟨rfl, rfl⟩ | ⟨rfl, rfl, ⟨vx0, vx1⟩, ⟨vy0, vy1⟩, vo1, vo2, v6, vx6, vy6, ⟨mx0, mx1⟩, my0, my1⟩ | ⟨rfl, rfl, ⟨⟨vx0, vx1⟩, ⟨vy0, vy1⟩, vo1, vo2, v6, vx6, vy6, ⟨mx0, mx1⟩, my0, my1⟩, hs0, hs1, hK, hks, hot⟩; all_goals (rcases HCZ.out with rfl | ⟨rfl, hz0, hz1, hM, hsm, hm1, hcc⟩); all_goals (first | (have HOT := Lib.hid hot; clear hot) | skip); all_goals (first | (have HCC2 := Lib.hid hcc; have HSM := Lib.hid hsm; have HM1 := Lib.hid hm1; clear hcc hsm hm1; obtain ⟨t, rfl⟩ : ∃ t : Nat, z = (t : Int) := ⟨z.toNat, by omega⟩) | skip); all_goals (first | (rcases hks with ⟨hk1, hk2⟩ | ⟨rfl, hk2⟩) | skip)))
    | (clear tk4; (go_at_call 23; refine (HCC.out _).mono ?_; rintro e w1 ⟨rfl, hE⟩; replace k0_0 : w1.cell? ⟨wa.heap.size, 0, none⟩ = some (.int .i64 (x)) := (hE.cells _ _ (by first | exact l0 | (simp; done) | (simp; omega))).trans (by first | exact k0_0 | (go_simp; done)); replace k0_1 : w1.cell? ⟨wa.heap.size, 1, none⟩ = some (.int .i64 (y)) := (hE.cells _ _ (by first | exact l0 | (simp; done) | (simp; omega))).trans (by first | exact k0_1 | (go_simp; done)); replace l0 : wa.heap.size < w1.heap.size := Nat.lt_of_lt_of_le (by first | exact l0 | (simp; done) | (simp; omega)) hE.size))
    | (go_at_call 24; refine (HSC.out _).mono ?_; rintro e w1 ⟨rfl, hE⟩; replace k0_0 : w1.cell? ⟨wa.heap.size, 0, none⟩ = some (.int .i64 (x)) := (hE.cells _ _ (by first | exact l0 | (simp; done) | (simp; omega))).trans (by first | exact k0_0 | (go_simp; done)); replace k0_1 : w1.cell? ⟨wa.heap.size, 1, none⟩ = some (.int .i64 (y)) := (hE.cells _ _ (by first | exact l0 | (simp; done) | (simp; omega))).trans (by first | exact k0_1 | (go_simp; done)); replace l0 : wa.heap.size < w1.heap.size := Nat.lt_of_lt_of_le (by first | exact l0 | (simp; done) | (simp; omega)) hE.size)
    | (go_at_call 17; refine (HOT.out _).mono ?_; rintro e w1 ⟨rfl, hE⟩; replace k0_0 : w1.cell? ⟨wa.heap.size, 0, none⟩ = some (.int .i64 (x)) := (hE.cells _ _ (by first | exact l0 | (simp; done) | (simp; omega))).trans (by first | exact k0_0 | (go_simp; done)); replace k0_1 : w1.cell? ⟨wa.heap.size, 1, none⟩ = some (.int .i64 (y)) := (hE.cells _ _ (by first | exact l0 | (simp; done) | (simp; omega))).trans (by first | exact k0_1 | (go_simp; done)); replace l0 : wa.heap.size < w1.heap.size := Nat.lt_of_lt_of_le (by first | exact l0 | (simp; done) | (simp; omega)) hE.size)
    | (go_at_call 23; refine (HCC2.out _).mono ?_; rintro e w1 ⟨rfl, hE⟩; replace k0_0 : w1.cell? ⟨wa.heap.size, 0, none⟩ = some (.int .i64 (x)) := (hE.cells _ _ (by first | exact l0 | (simp; done) | (simp; omega))).trans (by first | exact k0_0 | (go_simp; done)); replace k0_1 : w1.cell? ⟨wa.heap.size, 1, none⟩ = some (.int .i64 (y)) := (hE.cells _ _ (by first | exact l0 | (simp; done) | (simp; omega))).trans (by first | exact k0_1 | (go_simp; done)); replace l0 : wa.heap.size < w1.heap.size := Nat.lt_of_lt_of_le (by first | exact l0 | (simp; done) | (simp; omega)) hE.size))
  all_goals first
    | (go_ret; exact ⟨rfl, (by (repeat' (first | (with_reducible exact Ext.refl _) | (with_reducible assumption) | (with_reducible refine Ext.alloc ?_ _) | (with_reducible refine Ext.drew ?_) | (with_reducible refine Ext.drewN ?_ _) | (with_reducible refine Ext.setCell ?_ ?_ _) | (with_reducible refine Ext.trans ?_ (by assumption)))) <;> (first | (with_reducible assumption) | omega | (simp; done) | (simp; omega)))⟩)
    | skip
  all_goals
    have hxq : Ext w w1 := (by (repeat' (first | (with_reducible exact Ext.refl _) | (with_reducible assumption) | (with_reducible refine Ext.alloc ?_ _) | (with_reducible refine Ext.drew ?_) | (with_reducible refine Ext.drewN ?_ _) | (with_reducible refine Ext.setCell ?_ ?_ _) | (with_reducible refine Ext.trans ?_ (by assumption)))) <;> (first | (with_reducible assumption) | omega | (simp; done) | (simp; omega)))
    have ht : t < 37 := by omega
    (try clear hk2)
    go_loopw [22, 23] (fun o i wr => ∃ k : Nat, k ≤ 6 ∧ i = .int .i64 k ∧ o = .int .i64 (sumK t (6 * k) : Int) ∧ Ext w wr) (fun _ i _ => 6 - (intOf i).toNat)
    case atStart => exact ⟨0, Nat.zero_le _, rfl, rfl, hxq⟩
    case round =>
      obtain ⟨k, hk, rfl, rfl, hx⟩ := hrel
      obtain ⟨wo, rfl⟩ : ∃ wo : World, wo = wr := ⟨_, rfl⟩
      by_cases hlt : k < 6
      · have hd : decide ((k : Int) < 6) = true := by simp; omega
        go_wp2
        go_loopw [22, 24] (fun o i wr => ∃ j : Nat, j ≤ 6 ∧ i = .int .i64 j ∧ o = .int .i64 (sumK t (6 * k + j) : Int) ∧ Ext w wr) (fun _ i _ => 6 - (intOf i).toNat)
        case atStart => exact ⟨0, Nat.zero_le _, rfl, rfl, hx⟩
        case round =>
          obtain ⟨j, hj, rfl, rfl, hx2⟩ := hrel
          have b1 := sumK_le t (6 * k + j) ht (by omega)
          by_cases hl2 : j < 6
          · have b2 := kept_le k j t hlt hl2 ht
            have HS := Lib.hid (show sumK t (6 * k + (j + 1)) = sumK t (6 * k + j) + keptN k j t by
              have e1 : (6 * k + j) / 6 = k := by omega
              have e2 : (6 * k + j) % 6 = j := by omega
              show sumK t (6 * k + j + 1) = _
              rw [sumK, e1, e2])
            go_wp2_with (go_at_call 17; refine (CountKept_ok k j t hlt hl2 ht _).mono ?_; rintro e w1 ⟨rfl, hE⟩)
            (first | exact ⟨⟨j + 1, by omega, by go_num, val_int (by rw [HS.out]; omega), hx2.trans hE⟩, by simp [intOf]; omega⟩ | (refine ⟨?_, by simp [intOf]; omega⟩; (repeat apply Exists.intro); exact ⟨⟨j + 1, by omega, by go_num, val_int (by rw [HS.out]; omega), hx2.trans hE⟩, rfl⟩))
          · obtain rfl : j = 6 := by omega
            go_wp2
            (first | exact ⟨⟨k + 1, by omega, by go_num, rfl, hx2⟩, by simp [intOf]; omega⟩ | (refine ⟨?_, by simp [intOf]; omega⟩; (repeat apply Exists.intro); exact ⟨⟨k + 1, by omega, by go_num, rfl, hx2⟩, rfl⟩))
      · obtain rfl : k = 6 := by omega
        have hsi : ((sumK t (6 * 6) : Nat) : Int) = 36 * (M : Int) := by have h9 := HSM.out; rw [Int.toNat_natCast] at h9; have h8 : sumK t (6 * 6) = 36 * M := h9; omega
        by_cases h1 : t = 1
        · have hm : M = 1 := HM1.out (by omega)
          subst hm
          subst h1
          go_wp2
          go_ret
          exact ⟨rfl, (by (repeat' (first | (with_reducible exact Ext.refl _) | (with_reducible assumption) | (with_reducible refine Ext.alloc ?_ _) | (with_reducible refine Ext.drew ?_) | (with_reducible refine Ext.drewN ?_ _) | (with_reducible refine Ext.setCell ?_ ?_ _) | (with_reducible refine Ext.trans ?_ (by assumption)))) <;> (first | (with_reducible assumption) | omega | (simp; done) | (simp; omega)))⟩
        · go_wp2
          go_ret
          exact ⟨rfl, (by (repeat' (first | (with_reducible exact Ext.refl _) | (with_reducible assumption) | (with_reducible refine Ext.alloc ?_ _) | (with_reducible refine Ext.drew ?_) | (with_reducible refine Ext.drewN ?_ _) | (with_reducible refine Ext.setCell ?_ ?_ _) | (with_reducible refine Ext.trans ?_ (by assumption)))) <;> (first | (with_reducible assumption) | omega | (simp; done) | (simp; omega)))⟩
theorem walk_FnClasses (w : World) (v_0 : Value) (n_0 : Nat) (hr_0 : Byt w w.heap.size v_0 n_0) (hc_0 : capOk v_0) : Calls Try.prog 5 #[v_0] w fun e w' => e = .returned (.bool true) ∧ Ext w w' := by
  by_cases hb : n_0 ≤ 65536
  · exact walkFC v_0 n_0 hb hc_0 w hr_0
  · obtain ⟨ao, cap, rfl, _⟩ := hr_0
    skip
    have HVB := Lib.hid (fun w => vBig_n true ao n_0 cap (by simp; omega) w)
    go_enter Try.func5, Try.ntmps5
    go_wp2_with (go_at_call 15; refine (HVB.out _).mono ?_; rintro e w1 ⟨rfl, hE⟩)
    go_ret
    exact ⟨rfl, (by (repeat' (first | (with_reducible exact Ext.refl _) | (with_reducible assumption) | (with_reducible refine Ext.alloc ?_ _) | (with_reducible refine Ext.drew ?_) | (with_reducible refine Ext.drewN ?_ _) | (with_reducible refine Ext.setCell ?_ ?_ _) | (with_reducible refine Ext.trans ?_ (by assumption)))) <;> (first | (with_reducible assumption) | omega | (simp; done) | (simp; omega)))⟩
namespace rowFnClasses
open Go.ChangeShapes Go.WideShapes Go.ChangeAt Go.RowKit
set_option maxRecDepth 100000 in
theorem lifted (os : Os) (started : os.Started) (H : Type) (enc : TypeId × Value → H) :
    ReturnsInHanded {} Try.checked os 5 .any (Rows.fnClassesSpec.pre6 enc Try.prog Try.f5 Rows.fnClassesRow.domain false) (Rows.fnClassesSpec.post enc Try.prog Try.f5 false true false false) := by
  refine returnsInHanded_of_change (C := Try.checked) own started (by kernel_rfl) Try.func5
    (ChangeSpec.witness6 (enc := enc) (C := Try.checked) false ⟨#[], #[.slice none 0 0], []⟩ 8 (by kernel_rfl) (by kernel_rfl) (by kernel_rfl) (by kernel_rfl)) ?_
  intro W base args ds gs before hval0 hW hcnd _
  have hval : ∀ (j : Nat) t v, Try.f5.params[j]? = some t → args[j]? = some v → Value.okWide Try.prog W .any base t v := hval0
  have hW' := hW
  obtain ⟨p, q, hA0, hV, rfl, hfz, hnd⟩ := hW
  have hA : DataW.TrodAll enc Try.prog W 0 (fun _ => true) true Try.f5.params.toList args.toList ds p := hA0
  rw [Try.params5] at hA hval
  obtain ⟨v0, vs0, d0, ds0, p0, q0, hargs, rfl, rfl, h0, r0⟩ := trodAll_cons hA
  obtain ⟨rfl, rfl, rfl⟩ := trodAll_nil r0
  obtain rfl : args = #[v0] := by cases args; simp_all
  obtain ⟨rfl, rfl⟩ := trodVars_none hV
  obtain ⟨n_0, hr_0, hc_0⟩ := open_bytes Try.underlying40 under_u8 cells_u8 (hval 0 40 v0 rfl rfl) h0
  clear hA0 hval0
  refine (walk_FnClasses W v0 n_0 hr_0 hc_0).mono fun e W' ⟨he, hx⟩ => ?_
  subst he
  exact ⟨_, rfl, post_law laidOut hW' rfl rfl rfl rfl rfl Try.underlying4 (by rw [Try.params5]; intro t ht; simp at ht; first | (rcases ht with rfl | rfl | rfl | rfl <;> exact ⟨by kernel_rfl, of_decide_eq_true (by kernel_rfl)⟩) | (rcases ht with rfl | rfl | rfl <;> exact ⟨by kernel_rfl, of_decide_eq_true (by kernel_rfl)⟩) | (rcases ht with rfl | rfl <;> exact ⟨by kernel_rfl, of_decide_eq_true (by kernel_rfl)⟩) | (subst ht; exact ⟨by kernel_rfl, of_decide_eq_true (by kernel_rfl)⟩)) hx⟩
theorem proved : Rows.FnClassesSaid :=
  OpenClaim.holds_of_wide 5 Try.f5 rfl rfl rfl rfl rfl rfl rfl ⟨rfl, rfl, rfl, rfl, rfl⟩ rfl rfl rfl rfl rfl (by kernel_rfl) Try.func5 (by kernel_rfl)
    (of_decide_eq_true (by kernel_rfl)) (by unfold Func.isWrapper; first | (rw [if_pos (by decide +kernel)]; kernel_rfl) | (rw [if_neg (by decide +kernel)]; exact ⟨rfl, rfl⟩))
    (fun os started H enc _ => lifted os started H enc)
#print axioms proved
end rowFnClasses
end Go.Proofs.Ytpopipacegkkbaa
