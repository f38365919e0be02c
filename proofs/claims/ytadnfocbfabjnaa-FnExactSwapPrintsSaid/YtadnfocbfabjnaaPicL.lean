/- PicL: contracts of functions, and lemmas, for this seat. Conditions: as each states. -/
import Derived.Test.YtadnfocbfabjnaaPicS
import Derived.Test.YtadnfocbfabjnaaMeet
import Derived.Test.YtadnfocbfabjnaaRaw0
set_option linter.unusedVariables false
set_option maxRecDepth 100000
set_option maxHeartbeats 2000000
namespace Go.Proofs.Ytadnfocbfabjnaa
open Go Go.RowKit Instr
theorem szPrintS_n (n m : Nat) (g : Nat → Int) (v : Value) (w : World) (hr : Raw w v n m g) (hn : n ≤ 1048576) : Calls Try.prog 37 #[v, .int .i64 1048576] w fun e w' => e = .returned (.int .i64 (1048576 - (n : Int))) ∧ Ext w w' := by
  obtain ⟨ao, cap, rfl, _⟩ := hr
  go_enter Try.func37, Try.ntmps37
  go_wp2
  go_returns
  exact ⟨by go_num, (by (repeat' (first | (with_reducible exact Ext.refl _) | (with_reducible assumption) | (with_reducible refine Ext.alloc ?_ _) | (with_reducible refine Ext.drew ?_) | (with_reducible refine Ext.drewN ?_ _) | (with_reducible refine Ext.setCell ?_ ?_ _) | (with_reducible refine Ext.trans ?_ (by assumption)))) <;> (first | (with_reducible assumption) | omega | (simp; done) | (simp; omega)))⟩
theorem szPrintS_big (n m : Nat) (g : Nat → Int) (v : Value) (w : World) (hr : Raw w v n m g) (hn : 1048576 < n) (hn2 : n ≤ 9223372036854775807) : Calls Try.prog 37 #[v, .int .i64 1048576] w fun e w' => e = .returned (.int .i64 (-1)) ∧ Ext w w' := by
  obtain ⟨ao, cap, rfl, _⟩ := hr
  go_enter Try.func37, Try.ntmps37
  go_wp2
  go_returns
  exact ⟨rfl, (by (repeat' (first | (with_reducible exact Ext.refl _) | (with_reducible assumption) | (with_reducible refine Ext.alloc ?_ _) | (with_reducible refine Ext.drew ?_) | (with_reducible refine Ext.drewN ?_ _) | (with_reducible refine Ext.setCell ?_ ?_ _) | (with_reducible refine Ext.trans ?_ (by assumption)))) <;> (first | (with_reducible assumption) | omega | (simp; done) | (simp; omega)))⟩
theorem info_pr : (Try.prog.info? 122).map (fun i => (i.zero, i.size, i.bytes)) = some (some (.agg #[.int .i64 0, .int .i64 0, .int .i64 0, .int .i64 0, .int .i64 0, .int .i64 0, .int .i64 0, .int .i64 0, .int .i64 0]), 9, 72) := by kernel_rfl
theorem up9 (m j : Nat) (g : Nat → Int) : Gl m (fun i => if i = j * 9 + 8 then g (j * 9 + 8) else if i = j * 9 + 7 then g (j * 9 + 7) else if i = j * 9 + 6 then g (j * 9 + 6) else if i = j * 9 + 5 then g (j * 9 + 5) else if i = j * 9 + 4 then g (j * 9 + 4) else if i = j * 9 + 3 then g (j * 9 + 3) else if i = j * 9 + 2 then g (j * 9 + 2) else if i = j * 9 + 1 then g (j * 9 + 1) else if i = j * 9 then g (j * 9) else upto (j * 9) g i) = Gl m (upto ((j + 1) * 9) g) :=
  Gl_congr fun i _ => by
    unfold upto
    repeat' split
    all_goals first | (subst_vars; rfl) | omega | rfl
theorem toPrintS_n (n : Nat) (g : Nat → Int) (v : Value) (w : World) (hr : Raw w v n 9 g) (hn : n ≤ 1048576) : Calls Try.prog 39 #[v] w fun e w' => ∃ u, e = .returned u ∧ Ext w w' ∧ w'.ownsRow w.heap.size 122 9 u n (Gl (n * 9) g) := by
  obtain ⟨i0, hi, iz0, iz1, iz2⟩ := info_parts info_pr
  obtain ⟨ao, cap, rfl, hs⟩ := hr
  rw [← up_all (n * 9) g]
  skip
  go_enter Try.func39, Try.ntmps39
  go_wp2_with (at_make; refine wpList_make_full _ rfl _ _ 60 rfl w.heap.size 122 i0 (.agg #[.int .i64 0, .int .i64 0, .int .i64 0, .int .i64 0, .int .i64 0, .int .i64 0, .int .i64 0, .int .i64 0, .int .i64 0]) 9 Try.underlying60 hi iz0 iz1 .i64 .i64 _ _ n rfl rfl rfl rfl (by rw [iz2]; omega) (by unfold maxLen; omega) (Nat.le_refl _) ?_; intro w1 hown hgrow; rw [made_Gl _ _ (by intro j hj; match j, hj with | 0, _ => rfl | 1, _ => rfl | 2, _ => rfl | 3, _ => rfl | 4, _ => rfl | 5, _ => rfl | 6, _ => rfl | 7, _ => rfl | 8, _ => rfl) (by decide), up_0 (n * 9) g] at hown)
  have hx1 : Ext w w1 := .of ⟨hgrow.os, hgrow.tape, hgrow.output, hgrow.size, fun k hk => hgrow.block k hk nofun⟩
  go_loopw [4] (fun i wr => ∃ j : Nat, j ≤ n ∧ i = .int .i64 j ∧ Ext w wr ∧ wr.ownsRow w.heap.size 122 9 (.slice (some ⟨w.heap.size, 0, none⟩) n n) n (Gl (n * 9) (upto (j * 9) g))) (fun i _ => n - (intOf i).toNat)
  case atStart => exact ⟨0, Nat.zero_le _, rfl, hx1, hown⟩
  case round =>
    obtain ⟨j, hj, rfl, hx, ho⟩ := hrel
    obtain ⟨wo, rfl⟩ : ∃ wo : World, wo = wr := ⟨_, rfl⟩
    have HO := Lib.hid ho
    clear ho hown hgrow hx1
    by_cases hlt : j < n
    · obtain ⟨b, o, rfl, hb, hc⟩ := hs (by omega)
      obtain ⟨r, hr⟩ : ∃ r : Nat → Int, r = fun k => g (j * 9 + k) := ⟨_, rfl⟩
      have c0 : wo.cell? ⟨b, o + j * 9 + 0, none⟩ = some (.int .i64 (r 0)) := by rw [hr, Nat.add_assoc]; exact (hx.cells b (o + (j * 9 + 0)) hb).trans (hc (j * 9 + 0) (by omega))
      have c1 : wo.cell? ⟨b, o + j * 9 + 1, none⟩ = some (.int .i64 (r 1)) := by rw [hr, Nat.add_assoc]; exact (hx.cells b (o + (j * 9 + 1)) hb).trans (hc (j * 9 + 1) (by omega))
      have c2 : wo.cell? ⟨b, o + j * 9 + 2, none⟩ = some (.int .i64 (r 2)) := by rw [hr, Nat.add_assoc]; exact (hx.cells b (o + (j * 9 + 2)) hb).trans (hc (j * 9 + 2) (by omega))
      have c3 : wo.cell? ⟨b, o + j * 9 + 3, none⟩ = some (.int .i64 (r 3)) := by rw [hr, Nat.add_assoc]; exact (hx.cells b (o + (j * 9 + 3)) hb).trans (hc (j * 9 + 3) (by omega))
      have c4 : wo.cell? ⟨b, o + j * 9 + 4, none⟩ = some (.int .i64 (r 4)) := by rw [hr, Nat.add_assoc]; exact (hx.cells b (o + (j * 9 + 4)) hb).trans (hc (j * 9 + 4) (by omega))
      have c5 : wo.cell? ⟨b, o + j * 9 + 5, none⟩ = some (.int .i64 (r 5)) := by rw [hr, Nat.add_assoc]; exact (hx.cells b (o + (j * 9 + 5)) hb).trans (hc (j * 9 + 5) (by omega))
      have c6 : wo.cell? ⟨b, o + j * 9 + 6, none⟩ = some (.int .i64 (r 6)) := by rw [hr, Nat.add_assoc]; exact (hx.cells b (o + (j * 9 + 6)) hb).trans (hc (j * 9 + 6) (by omega))
      have c7 : wo.cell? ⟨b, o + j * 9 + 7, none⟩ = some (.int .i64 (r 7)) := by rw [hr, Nat.add_assoc]; exact (hx.cells b (o + (j * 9 + 7)) hb).trans (hc (j * 9 + 7) (by omega))
      have c8 : wo.cell? ⟨b, o + j * 9 + 8, none⟩ = some (.int .i64 (r 8)) := by rw [hr, Nat.add_assoc]; exact (hx.cells b (o + (j * 9 + 8)) hb).trans (hc (j * 9 + 8) (by omega))
      rw [Nat.add_zero] at c0
      have HC := Lib.hid (fun w => toPrint_any r w)
      have HRR := Lib.hid hr
      clear hr
      go_wp2_with ((go_at_call 132; refine (HC.out _).mono ?_; rintro e w1 ⟨rfl, hE⟩); have HO1 := Lib.hid (own_ext HO.out hE); (have d0 := (HO1.out.cellAt (j * 9) (by omega)).trans (Gl_get (by omega))); (have f0 := HO1.out.frozenAt (j * 9)); (have d1 := (HO1.out.cellAt (j * 9 + 1) (by omega)).trans (Gl_get (by omega))); (have f1 := HO1.out.frozenAt (j * 9 + 1)); (have d2 := (HO1.out.cellAt (j * 9 + 2) (by omega)).trans (Gl_get (by omega))); (have f2 := HO1.out.frozenAt (j * 9 + 2)); (have d3 := (HO1.out.cellAt (j * 9 + 3) (by omega)).trans (Gl_get (by omega))); (have f3 := HO1.out.frozenAt (j * 9 + 3)); (have d4 := (HO1.out.cellAt (j * 9 + 4) (by omega)).trans (Gl_get (by omega))); (have f4 := HO1.out.frozenAt (j * 9 + 4)); (have d5 := (HO1.out.cellAt (j * 9 + 5) (by omega)).trans (Gl_get (by omega))); (have f5 := HO1.out.frozenAt (j * 9 + 5)); (have d6 := (HO1.out.cellAt (j * 9 + 6) (by omega)).trans (Gl_get (by omega))); (have f6 := HO1.out.frozenAt (j * 9 + 6)); (have d7 := (HO1.out.cellAt (j * 9 + 7) (by omega)).trans (Gl_get (by omega))); (have f7 := HO1.out.frozenAt (j * 9 + 7)); (have d8 := (HO1.out.cellAt (j * 9 + 8) (by omega)).trans (Gl_get (by omega))); (have f8 := HO1.out.frozenAt (j * 9 + 8)))
      have s0 := (HO1.out.stored (j * 9) (.int .i64 (r 0))).1
      rw [Gl_set] at s0
      have s1 := (s0.stored (j * 9 + 1) (.int .i64 (r 1))).1
      rw [Gl_set] at s1
      have s2 := (s1.stored (j * 9 + 2) (.int .i64 (r 2))).1
      rw [Gl_set] at s2
      have s3 := (s2.stored (j * 9 + 3) (.int .i64 (r 3))).1
      rw [Gl_set] at s3
      have s4 := (s3.stored (j * 9 + 4) (.int .i64 (r 4))).1
      rw [Gl_set] at s4
      have s5 := (s4.stored (j * 9 + 5) (.int .i64 (r 5))).1
      rw [Gl_set] at s5
      have s6 := (s5.stored (j * 9 + 6) (.int .i64 (r 6))).1
      rw [Gl_set] at s6
      have s7 := (s6.stored (j * 9 + 7) (.int .i64 (r 7))).1
      rw [Gl_set] at s7
      have s8 := (s7.stored (j * 9 + 8) (.int .i64 (r 8))).1
      rw [Gl_set] at s8
      have hs9 := s8
      rw [show Gl (n * 9) _ = Gl (n * 9) (upto ((j + 1) * 9) g) from (by rw [HRR.out]; exact up9 (n * 9) j g)] at hs9
      clear s0 s1 s2 s3 s4 s5 s6 s7 s8
      trace_state
      exact ⟨⟨j + 1, by omega, by go_num, (by (repeat' (first | (with_reducible exact Ext.refl _) | (with_reducible assumption) | (with_reducible refine Ext.alloc ?_ _) | (with_reducible refine Ext.drew ?_) | (with_reducible refine Ext.drewN ?_ _) | (with_reducible refine Ext.setCell ?_ ?_ _) | (with_reducible refine Ext.trans ?_ (by assumption)))) <;> (first | (with_reducible assumption) | omega | (simp; done) | (simp; omega))), hs9⟩, by simp [intOf]; omega⟩
    · obtain rfl : j = n := by omega
      go_wp2
      go_returns
      exact ⟨_, rfl, (by (repeat' (first | (with_reducible exact Ext.refl _) | (with_reducible assumption) | (with_reducible refine Ext.alloc ?_ _) | (with_reducible refine Ext.drew ?_) | (with_reducible refine Ext.drewN ?_ _) | (with_reducible refine Ext.setCell ?_ ?_ _) | (with_reducible refine Ext.trans ?_ (by assumption)))) <;> (first | (with_reducible assumption) | omega | (simp; done) | (simp; omega))), HO.out⟩
theorem eqPicture_same (p : Nat → Int) (w : World) : Calls Try.prog 41 #[.agg (av 36 p), .agg (av 36 p)] w fun e w' => e = .returned (.bool true) ∧ Ext w w' := by
  have HC := Lib.hid (fun w => eqIntA6A6_same p w)
  have HA := Lib.hid ((Big.new w 57 36 p rfl).ext ((Ext.refl _).alloc (.cells (av 36 p) 57)))
  have HB := Lib.hid (Big.new (w.alloc (.cells (av 36 p) 57)) 57 36 p (b := w.heap.size + 1) (by simp))
  have tk0 := Lib.hid True.intro; have tk1 := Lib.hid True.intro
  go_enter Try.func41, Try.ntmps41
  go_wp2_with (first | (clear tk0; (refine wpList_fieldAt (v := .pointer (some ⟨w.heap.size, 0, none⟩)) rfl rfl (by simp only [execOp]; go_simp; done) ?_; (try go_simp))) | (refine wpList_fieldAt (v := .pointer (some ⟨w.heap.size + 1, 0, none⟩)) rfl rfl (by simp only [execOp]; go_simp; done) ?_; (try go_simp)) | (clear tk1; (refine wpList_load_row rfl 55 (.tmp 5) rfl _ rfl _ _ _ _ HA.out Try.underlying55 rfl (sz36 _) ?_; (try go_simp))) | (refine wpList_load_row rfl 55 (.tmp 7) rfl _ rfl _ _ _ _ HB.out Try.underlying55 rfl (sz36 _) ?_; (try go_simp)) | (go_at_call 135; refine (HC.out _).mono ?_; rintro e w1 ⟨rfl, hE⟩))
  go_returns
  exact ⟨rfl, (by (repeat' (first | (with_reducible exact Ext.refl _) | (with_reducible assumption) | (with_reducible refine Ext.alloc ?_ _) | (with_reducible refine Ext.drew ?_) | (with_reducible refine Ext.drewN ?_ _) | (with_reducible refine Ext.setCell ?_ ?_ _) | (with_reducible refine Ext.trans ?_ (by assumption)))) <;> (first | (with_reducible assumption) | omega | (simp; done) | (simp; omega)))⟩
theorem eqPrint_same (r : Nat → Int) (w : World) : Calls Try.prog 136 #[(.agg #[.int .i64 (r 0), .int .i64 (r 1), .int .i64 (r 2), .int .i64 (r 3), .int .i64 (r 4), .int .i64 (r 5), .int .i64 (r 6), .int .i64 (r 7), .int .i64 (r 8)]), (.agg #[.int .i64 (r 0), .int .i64 (r 1), .int .i64 (r 2), .int .i64 (r 3), .int .i64 (r 4), .int .i64 (r 5), .int .i64 (r 6), .int .i64 (r 7), .int .i64 (r 8)])] w fun e w' => e = .returned (.bool true) ∧ Ext w w' := by
  have HS := Lib.hid (show ∀ w, Calls Try.prog 205 #[.agg #[.int .i64 (r 1), .int .i64 (r 2), .int .i64 (r 3), .int .i64 (r 4), .int .i64 (r 5), .int .i64 (r 6)], .agg #[.int .i64 (r 1), .int .i64 (r 2), .int .i64 (r 3), .int .i64 (r 4), .int .i64 (r 5), .int .i64 (r 6)]] w fun e w' => e = .returned (.bool true) ∧ Ext w w' from fun w => eqSheet_same (fun k => r (k + 1)) w)
  have HC := Lib.hid (fun w => eqIntA2_same (r 7) (r 8) w)
  skip
  go_enter Try.func136, Try.ntmps136
  go_wp2_with (first | (go_at_call 205; refine (HS.out _).mono ?_; rintro e w1 ⟨rfl, hE⟩; replace k0_0 : w1.cell? ⟨w.heap.size, 0, none⟩ = some (.int .i64 (r 0)) := (hE.cells _ _ (by first | exact l0 | (simp; done) | (simp; omega))).trans (by first | exact k0_0 | (go_simp; done)); replace k0_1 : w1.cell? ⟨w.heap.size, 1, none⟩ = some (.int .i64 (r 1)) := (hE.cells _ _ (by first | exact l0 | (simp; done) | (simp; omega))).trans (by first | exact k0_1 | (go_simp; done)); replace k0_2 : w1.cell? ⟨w.heap.size, 2, none⟩ = some (.int .i64 (r 2)) := (hE.cells _ _ (by first | exact l0 | (simp; done) | (simp; omega))).trans (by first | exact k0_2 | (go_simp; done)); replace k0_3 : w1.cell? ⟨w.heap.size, 3, none⟩ = some (.int .i64 (r 3)) := (hE.cells _ _ (by first | exact l0 | (simp; done) | (simp; omega))).trans (by first | exact k0_3 | (go_simp; done)); replace k0_4 : w1.cell? ⟨w.heap.size, 4, none⟩ = some (.int .i64 (r 4)) := (hE.cells _ _ (by first | exact l0 | (simp; done) | (simp; omega))).trans (by first | exact k0_4 | (go_simp; done)); replace k0_5 : w1.cell? ⟨w.heap.size, 5, none⟩ = some (.int .i64 (r 5)) := (hE.cells _ _ (by first | exact l0 | (simp; done) | (simp; omega))).trans (by first | exact k0_5 | (go_simp; done)); replace k0_6 : w1.cell? ⟨w.heap.size, 6, none⟩ = some (.int .i64 (r 6)) := (hE.cells _ _ (by first | exact l0 | (simp; done) | (simp; omega))).trans (by first | exact k0_6 | (go_simp; done)); replace k0_7 : w1.cell? ⟨w.heap.size, 7, none⟩ = some (.int .i64 (r 7)) := (hE.cells _ _ (by first | exact l0 | (simp; done) | (simp; omega))).trans (by first | exact k0_7 | (go_simp; done)); replace k0_8 : w1.cell? ⟨w.heap.size, 8, none⟩ = some (.int .i64 (r 8)) := (hE.cells _ _ (by first | exact l0 | (simp; done) | (simp; omega))).trans (by first | exact k0_8 | (go_simp; done)); replace k1_0 : w1.cell? ⟨w.heap.size + 1, 0, none⟩ = some (.int .i64 (r 0)) := (hE.cells _ _ (by first | exact l1 | (simp; done) | (simp; omega))).trans (by first | exact k1_0 | (go_simp; done)); replace k1_1 : w1.cell? ⟨w.heap.size + 1, 1, none⟩ = some (.int .i64 (r 1)) := (hE.cells _ _ (by first | exact l1 | (simp; done) | (simp; omega))).trans (by first | exact k1_1 | (go_simp; done)); replace k1_2 : w1.cell? ⟨w.heap.size + 1, 2, none⟩ = some (.int .i64 (r 2)) := (hE.cells _ _ (by first | exact l1 | (simp; done) | (simp; omega))).trans (by first | exact k1_2 | (go_simp; done)); replace k1_3 : w1.cell? ⟨w.heap.size + 1, 3, none⟩ = some (.int .i64 (r 3)) := (hE.cells _ _ (by first | exact l1 | (simp; done) | (simp; omega))).trans (by first | exact k1_3 | (go_simp; done)); replace k1_4 : w1.cell? ⟨w.heap.size + 1, 4, none⟩ = some (.int .i64 (r 4)) := (hE.cells _ _ (by first | exact l1 | (simp; done) | (simp; omega))).trans (by first | exact k1_4 | (go_simp; done)); replace k1_5 : w1.cell? ⟨w.heap.size + 1, 5, none⟩ = some (.int .i64 (r 5)) := (hE.cells _ _ (by first | exact l1 | (simp; done) | (simp; omega))).trans (by first | exact k1_5 | (go_simp; done)); replace k1_6 : w1.cell? ⟨w.heap.size + 1, 6, none⟩ = some (.int .i64 (r 6)) := (hE.cells _ _ (by first | exact l1 | (simp; done) | (simp; omega))).trans (by first | exact k1_6 | (go_simp; done)); replace k1_7 : w1.cell? ⟨w.heap.size + 1, 7, none⟩ = some (.int .i64 (r 7)) := (hE.cells _ _ (by first | exact l1 | (simp; done) | (simp; omega))).trans (by first | exact k1_7 | (go_simp; done)); replace k1_8 : w1.cell? ⟨w.heap.size + 1, 8, none⟩ = some (.int .i64 (r 8)) := (hE.cells _ _ (by first | exact l1 | (simp; done) | (simp; omega))).trans (by first | exact k1_8 | (go_simp; done)); replace l0 : w.heap.size < w1.heap.size := Nat.lt_of_lt_of_le (by first | exact l0 | (simp; done) | (simp; omega)) hE.size; replace l1 : w.heap.size + 1 < w1.heap.size := Nat.lt_of_lt_of_le (by first | exact l1 | (simp; done) | (simp; omega)) hE.size) | (go_at_call 175; refine (HC.out _).mono ?_; rintro e w1 ⟨rfl, hE⟩; replace k0_0 : w1.cell? ⟨w.heap.size, 0, none⟩ = some (.int .i64 (r 0)) := (hE.cells _ _ (by first | exact l0 | (simp; done) | (simp; omega))).trans (by first | exact k0_0 | (go_simp; done)); replace k0_1 : w1.cell? ⟨w.heap.size, 1, none⟩ = some (.int .i64 (r 1)) := (hE.cells _ _ (by first | exact l0 | (simp; done) | (simp; omega))).trans (by first | exact k0_1 | (go_simp; done)); replace k0_2 : w1.cell? ⟨w.heap.size, 2, none⟩ = some (.int .i64 (r 2)) := (hE.cells _ _ (by first | exact l0 | (simp; done) | (simp; omega))).trans (by first | exact k0_2 | (go_simp; done)); replace k0_3 : w1.cell? ⟨w.heap.size, 3, none⟩ = some (.int .i64 (r 3)) := (hE.cells _ _ (by first | exact l0 | (simp; done) | (simp; omega))).trans (by first | exact k0_3 | (go_simp; done)); replace k0_4 : w1.cell? ⟨w.heap.size, 4, none⟩ = some (.int .i64 (r 4)) := (hE.cells _ _ (by first | exact l0 | (simp; done) | (simp; omega))).trans (by first | exact k0_4 | (go_simp; done)); replace k0_5 : w1.cell? ⟨w.heap.size, 5, none⟩ = some (.int .i64 (r 5)) := (hE.cells _ _ (by first | exact l0 | (simp; done) | (simp; omega))).trans (by first | exact k0_5 | (go_simp; done)); replace k0_6 : w1.cell? ⟨w.heap.size, 6, none⟩ = some (.int .i64 (r 6)) := (hE.cells _ _ (by first | exact l0 | (simp; done) | (simp; omega))).trans (by first | exact k0_6 | (go_simp; done)); replace k0_7 : w1.cell? ⟨w.heap.size, 7, none⟩ = some (.int .i64 (r 7)) := (hE.cells _ _ (by first | exact l0 | (simp; done) | (simp; omega))).trans (by first | exact k0_7 | (go_simp; done)); replace k0_8 : w1.cell? ⟨w.heap.size, 8, none⟩ = some (.int .i64 (r 8)) := (hE.cells _ _ (by first | exact l0 | (simp; done) | (simp; omega))).trans (by first | exact k0_8 | (go_simp; done)); replace k1_0 : w1.cell? ⟨w.heap.size + 1, 0, none⟩ = some (.int .i64 (r 0)) := (hE.cells _ _ (by first | exact l1 | (simp; done) | (simp; omega))).trans (by first | exact k1_0 | (go_simp; done)); replace k1_1 : w1.cell? ⟨w.heap.size + 1, 1, none⟩ = some (.int .i64 (r 1)) := (hE.cells _ _ (by first | exact l1 | (simp; done) | (simp; omega))).trans (by first | exact k1_1 | (go_simp; done)); replace k1_2 : w1.cell? ⟨w.heap.size + 1, 2, none⟩ = some (.int .i64 (r 2)) := (hE.cells _ _ (by first | exact l1 | (simp; done) | (simp; omega))).trans (by first | exact k1_2 | (go_simp; done)); replace k1_3 : w1.cell? ⟨w.heap.size + 1, 3, none⟩ = some (.int .i64 (r 3)) := (hE.cells _ _ (by first | exact l1 | (simp; done) | (simp; omega))).trans (by first | exact k1_3 | (go_simp; done)); replace k1_4 : w1.cell? ⟨w.heap.size + 1, 4, none⟩ = some (.int .i64 (r 4)) := (hE.cells _ _ (by first | exact l1 | (simp; done) | (simp; omega))).trans (by first | exact k1_4 | (go_simp; done)); replace k1_5 : w1.cell? ⟨w.heap.size + 1, 5, none⟩ = some (.int .i64 (r 5)) := (hE.cells _ _ (by first | exact l1 | (simp; done) | (simp; omega))).trans (by first | exact k1_5 | (go_simp; done)); replace k1_6 : w1.cell? ⟨w.heap.size + 1, 6, none⟩ = some (.int .i64 (r 6)) := (hE.cells _ _ (by first | exact l1 | (simp; done) | (simp; omega))).trans (by first | exact k1_6 | (go_simp; done)); replace k1_7 : w1.cell? ⟨w.heap.size + 1, 7, none⟩ = some (.int .i64 (r 7)) := (hE.cells _ _ (by first | exact l1 | (simp; done) | (simp; omega))).trans (by first | exact k1_7 | (go_simp; done)); replace k1_8 : w1.cell? ⟨w.heap.size + 1, 8, none⟩ = some (.int .i64 (r 8)) := (hE.cells _ _ (by first | exact l1 | (simp; done) | (simp; omega))).trans (by first | exact k1_8 | (go_simp; done)); replace l0 : w.heap.size < w1.heap.size := Nat.lt_of_lt_of_le (by first | exact l0 | (simp; done) | (simp; omega)) hE.size; replace l1 : w.heap.size + 1 < w1.heap.size := Nat.lt_of_lt_of_le (by first | exact l1 | (simp; done) | (simp; omega)) hE.size))
  go_returns
  exact ⟨rfl, (by (repeat' (first | (with_reducible exact Ext.refl _) | (with_reducible assumption) | (with_reducible refine Ext.alloc ?_ _) | (with_reducible refine Ext.drew ?_) | (with_reducible refine Ext.drewN ?_ _) | (with_reducible refine Ext.setCell ?_ ?_ _) | (with_reducible refine Ext.trans ?_ (by assumption)))) <;> (first | (with_reducible assumption) | omega | (simp; done) | (simp; omega)))⟩
theorem eqPrintS_n (B C n : Nat) (g : Nat → Int) (v u : Value) (w : World) (hn : n < 2000000) (h : w.ownsRow B 122 9 v n (Gl (n * 9) g)) (k : w.ownsRow C 122 9 u n (Gl (n * 9) g)) :
    Calls Try.prog 42 #[v, u] w fun e w' => e = .returned (.bool true) ∧ Ext w w' := by
  obtain ⟨ao, cap, rfl, ha⟩ := own_shape h
  obtain ⟨bo, cup, rfl, hb⟩ := own_shape k
  have H := Lib.hid h
  have K := Lib.hid k
  clear h k
  skip
  go_enter Try.func42, Try.ntmps42
  go_wp2
  go_loopw [5] (fun i wr => ∃ j : Nat, j ≤ n ∧ i = .int .i64 j ∧ Ext w wr) (fun i _ => n - (intOf i).toNat)
  case atStart => exact ⟨0, Nat.zero_le _, rfl, (by (repeat' (first | (with_reducible exact Ext.refl _) | (with_reducible assumption) | (with_reducible refine Ext.alloc ?_ _) | (with_reducible refine Ext.drew ?_) | (with_reducible refine Ext.drewN ?_ _) | (with_reducible refine Ext.setCell ?_ ?_ _) | (with_reducible refine Ext.trans ?_ (by assumption)))) <;> (first | (with_reducible assumption) | omega | (simp; done) | (simp; omega)))⟩
  case round =>
    obtain ⟨j, hj, rfl, hx⟩ := hrel
    obtain ⟨wo, rfl⟩ : ∃ wo : World, wo = wr := ⟨_, rfl⟩
    by_cases hlt : j < n
    · obtain ⟨a, rfl, _, ha⟩ := ha (by omega)
      obtain ⟨b, rfl, _, hb⟩ := hb (by omega)
      have hs := hx.size
      obtain ⟨r, hr⟩ : ∃ r : Nat → Int, r = fun k => g (j * 9 + k) := ⟨_, rfl⟩
      have c0 : wo.cell? ⟨a, j * 9 + 0, none⟩ = some (.int .i64 (r 0)) := by rw [hr]; exact ((own_ext H.out hx).cellAt (j * 9 + 0) (by omega)).trans (Gl_get (by omega))
      have d0 : wo.cell? ⟨b, j * 9 + 0, none⟩ = some (.int .i64 (r 0)) := by rw [hr]; exact ((own_ext K.out hx).cellAt (j * 9 + 0) (by omega)).trans (Gl_get (by omega))
      have c1 : wo.cell? ⟨a, j * 9 + 1, none⟩ = some (.int .i64 (r 1)) := by rw [hr]; exact ((own_ext H.out hx).cellAt (j * 9 + 1) (by omega)).trans (Gl_get (by omega))
      have d1 : wo.cell? ⟨b, j * 9 + 1, none⟩ = some (.int .i64 (r 1)) := by rw [hr]; exact ((own_ext K.out hx).cellAt (j * 9 + 1) (by omega)).trans (Gl_get (by omega))
      have c2 : wo.cell? ⟨a, j * 9 + 2, none⟩ = some (.int .i64 (r 2)) := by rw [hr]; exact ((own_ext H.out hx).cellAt (j * 9 + 2) (by omega)).trans (Gl_get (by omega))
      have d2 : wo.cell? ⟨b, j * 9 + 2, none⟩ = some (.int .i64 (r 2)) := by rw [hr]; exact ((own_ext K.out hx).cellAt (j * 9 + 2) (by omega)).trans (Gl_get (by omega))
      have c3 : wo.cell? ⟨a, j * 9 + 3, none⟩ = some (.int .i64 (r 3)) := by rw [hr]; exact ((own_ext H.out hx).cellAt (j * 9 + 3) (by omega)).trans (Gl_get (by omega))
      have d3 : wo.cell? ⟨b, j * 9 + 3, none⟩ = some (.int .i64 (r 3)) := by rw [hr]; exact ((own_ext K.out hx).cellAt (j * 9 + 3) (by omega)).trans (Gl_get (by omega))
      have c4 : wo.cell? ⟨a, j * 9 + 4, none⟩ = some (.int .i64 (r 4)) := by rw [hr]; exact ((own_ext H.out hx).cellAt (j * 9 + 4) (by omega)).trans (Gl_get (by omega))
      have d4 : wo.cell? ⟨b, j * 9 + 4, none⟩ = some (.int .i64 (r 4)) := by rw [hr]; exact ((own_ext K.out hx).cellAt (j * 9 + 4) (by omega)).trans (Gl_get (by omega))
      have c5 : wo.cell? ⟨a, j * 9 + 5, none⟩ = some (.int .i64 (r 5)) := by rw [hr]; exact ((own_ext H.out hx).cellAt (j * 9 + 5) (by omega)).trans (Gl_get (by omega))
      have d5 : wo.cell? ⟨b, j * 9 + 5, none⟩ = some (.int .i64 (r 5)) := by rw [hr]; exact ((own_ext K.out hx).cellAt (j * 9 + 5) (by omega)).trans (Gl_get (by omega))
      have c6 : wo.cell? ⟨a, j * 9 + 6, none⟩ = some (.int .i64 (r 6)) := by rw [hr]; exact ((own_ext H.out hx).cellAt (j * 9 + 6) (by omega)).trans (Gl_get (by omega))
      have d6 : wo.cell? ⟨b, j * 9 + 6, none⟩ = some (.int .i64 (r 6)) := by rw [hr]; exact ((own_ext K.out hx).cellAt (j * 9 + 6) (by omega)).trans (Gl_get (by omega))
      have c7 : wo.cell? ⟨a, j * 9 + 7, none⟩ = some (.int .i64 (r 7)) := by rw [hr]; exact ((own_ext H.out hx).cellAt (j * 9 + 7) (by omega)).trans (Gl_get (by omega))
      have d7 : wo.cell? ⟨b, j * 9 + 7, none⟩ = some (.int .i64 (r 7)) := by rw [hr]; exact ((own_ext K.out hx).cellAt (j * 9 + 7) (by omega)).trans (Gl_get (by omega))
      have c8 : wo.cell? ⟨a, j * 9 + 8, none⟩ = some (.int .i64 (r 8)) := by rw [hr]; exact ((own_ext H.out hx).cellAt (j * 9 + 8) (by omega)).trans (Gl_get (by omega))
      have d8 : wo.cell? ⟨b, j * 9 + 8, none⟩ = some (.int .i64 (r 8)) := by rw [hr]; exact ((own_ext K.out hx).cellAt (j * 9 + 8) (by omega)).trans (Gl_get (by omega))
      rw [Nat.add_zero] at c0 d0
      have za : a < wo.heap.size := by omega
      have zb : b < wo.heap.size := by omega
      clear hr
      go_wp2
      refine wp_calm0 (by kernel_rfl) (by kernel_rfl) ?_; intro hgr; (refine walkQ_step (fun K hK => ?_); go_simp; (try (go_ints; try go_simp)); first | (refine hK _ ?_; clear hK K) | (apply Exists.intro; refine ⟨fun _ => ?_, hK _ ?_⟩; ((go_at_call 136; exact (eqPrint_same _ _))); clear hK K) | (simp only [↓IntWalk.iteOmega]; (try go_simp); (try (go_ints; try go_simp)); first | (refine hK _ ?_; clear hK K) | (apply Exists.intro; refine ⟨fun _ => ?_, hK _ ?_⟩; ((go_at_call 136; exact (eqPrint_same _ _))); clear hK K))); (refine walkQ_step (fun K hK => ?_); go_simp; (try (go_ints; try go_simp)); first | (refine hK _ ?_; clear hK K) | (apply Exists.intro; refine ⟨fun _ => ?_, hK _ ?_⟩; ((go_at_call 136; exact (eqPrint_same _ _))); clear hK K) | (simp only [↓IntWalk.iteOmega]; (try go_simp); (try (go_ints; try go_simp)); first | (refine hK _ ?_; clear hK K) | (apply Exists.intro; refine ⟨fun _ => ?_, hK _ ?_⟩; ((go_at_call 136; exact (eqPrint_same _ _))); clear hK K))); (refine walkQ_step (fun K hK => ?_); go_simp; (try (go_ints; try go_simp)); first | (refine hK _ ?_; clear hK K) | (apply Exists.intro; refine ⟨fun _ => ?_, hK _ ?_⟩; ((go_at_call 136; exact (eqPrint_same _ _))); clear hK K) | (simp only [↓IntWalk.iteOmega]; (try go_simp); (try (go_ints; try go_simp)); first | (refine hK _ ?_; clear hK K) | (apply Exists.intro; refine ⟨fun _ => ?_, hK _ ?_⟩; ((go_at_call 136; exact (eqPrint_same _ _))); clear hK K))); (refine walkQ_step (fun K hK => ?_); go_simp; (try (go_ints; try go_simp)); first | (refine hK _ ?_; clear hK K) | (apply Exists.intro; refine ⟨fun _ => ?_, hK _ ?_⟩; ((go_at_call 136; exact (eqPrint_same _ _))); clear hK K) | (simp only [↓IntWalk.iteOmega]; (try go_simp); (try (go_ints; try go_simp)); first | (refine hK _ ?_; clear hK K) | (apply Exists.intro; refine ⟨fun _ => ?_, hK _ ?_⟩; ((go_at_call 136; exact (eqPrint_same _ _))); clear hK K))); (refine walkQ_step (fun K hK => ?_); go_simp; (try (go_ints; try go_simp)); first | (refine hK _ ?_; clear hK K) | (apply Exists.intro; refine ⟨fun _ => ?_, hK _ ?_⟩; ((go_at_call 136; exact (eqPrint_same _ _))); clear hK K) | (simp only [↓IntWalk.iteOmega]; (try go_simp); (try (go_ints; try go_simp)); first | (refine hK _ ?_; clear hK K) | (apply Exists.intro; refine ⟨fun _ => ?_, hK _ ?_⟩; ((go_at_call 136; exact (eqPrint_same _ _))); clear hK K))); (refine walkQ_step (fun K hK => ?_); go_simp; (try (go_ints; try go_simp)); first | (refine hK _ ?_; clear hK K) | (apply Exists.intro; refine ⟨fun _ => ?_, hK _ ?_⟩; ((go_at_call 136; exact (eqPrint_same _ _))); clear hK K) | (simp only [↓IntWalk.iteOmega]; (try go_simp); (try (go_ints; try go_simp)); first | (refine hK _ ?_; clear hK K) | (apply Exists.intro; refine ⟨fun _ => ?_, hK _ ?_⟩; ((go_at_call 136; exact (eqPrint_same _ _))); clear hK K))); (refine walkQ_step (fun K hK => ?_); go_simp; (try (go_ints; try go_simp)); first | (refine hK _ ?_; clear hK K) | (apply Exists.intro; refine ⟨fun _ => ?_, hK _ ?_⟩; ((go_at_call 136; exact (eqPrint_same _ _))); clear hK K) | (simp only [↓IntWalk.iteOmega]; (try go_simp); (try (go_ints; try go_simp)); first | (refine hK _ ?_; clear hK K) | (apply Exists.intro; refine ⟨fun _ => ?_, hK _ ?_⟩; ((go_at_call 136; exact (eqPrint_same _ _))); clear hK K))); (refine walkQ_step (fun K hK => ?_); go_simp; (try (go_ints; try go_simp)); first | (refine hK _ ?_; clear hK K) | (apply Exists.intro; refine ⟨fun _ => ?_, hK _ ?_⟩; ((go_at_call 136; exact (eqPrint_same _ _))); clear hK K) | (simp only [↓IntWalk.iteOmega]; (try go_simp); (try (go_ints; try go_simp)); first | (refine hK _ ?_; clear hK K) | (apply Exists.intro; refine ⟨fun _ => ?_, hK _ ?_⟩; ((go_at_call 136; exact (eqPrint_same _ _))); clear hK K))); (refine walkQ_step (fun K hK => ?_); go_simp; (try (go_ints; try go_simp)); first | (refine hK _ ?_; clear hK K) | (apply Exists.intro; refine ⟨fun _ => ?_, hK _ ?_⟩; ((go_at_call 136; exact (eqPrint_same _ _))); clear hK K) | (simp only [↓IntWalk.iteOmega]; (try go_simp); (try (go_ints; try go_simp)); first | (refine hK _ ?_; clear hK K) | (apply Exists.intro; refine ⟨fun _ => ?_, hK _ ?_⟩; ((go_at_call 136; exact (eqPrint_same _ _))); clear hK K))); (refine walkQ_step (fun K hK => ?_); go_simp; (try (go_ints; try go_simp)); first | (refine hK _ ?_; clear hK K) | (apply Exists.intro; refine ⟨fun _ => ?_, hK _ ?_⟩; ((go_at_call 136; exact (eqPrint_same _ _))); clear hK K) | (simp only [↓IntWalk.iteOmega]; (try go_simp); (try (go_ints; try go_simp)); first | (refine hK _ ?_; clear hK K) | (apply Exists.intro; refine ⟨fun _ => ?_, hK _ ?_⟩; ((go_at_call 136; exact (eqPrint_same _ _))); clear hK K))); refine walkQ_nil ?_; clear hgr; intro w1 hE; have hc2 := hE.cells; have hf2 := hE.frees; have hz2 := hE.size
      replace hE : Ext wo w1 := ((Ext.refl wo).drew).trans hE
      go_wp2
      (first | exact ⟨⟨j + 1, by omega, by go_num, hx.trans hE⟩, by simp [intOf]; omega⟩ | (refine ⟨?_, by simp [intOf]; omega⟩; (repeat apply Exists.intro); exact ⟨⟨j + 1, by omega, by go_num, hx.trans hE⟩, rfl⟩))
    · obtain rfl : j = n := by omega
      go_wp2
      go_returns
      exact ⟨rfl, (by (repeat' (first | (with_reducible exact Ext.refl _) | (with_reducible assumption) | (with_reducible refine Ext.alloc ?_ _) | (with_reducible refine Ext.drew ?_) | (with_reducible refine Ext.drewN ?_ _) | (with_reducible refine Ext.setCell ?_ ?_ _) | (with_reducible refine Ext.trans ?_ (by assumption)))) <;> (first | (with_reducible assumption) | omega | (simp; done) | (simp; omega)))⟩
end Go.Proofs.Ytadnfocbfabjnaa
