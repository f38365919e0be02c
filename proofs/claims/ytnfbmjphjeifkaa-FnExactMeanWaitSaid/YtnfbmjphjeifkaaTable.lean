/- Table: contracts of functions, and lemmas, for this seat. Conditions: as each states. -/
import Derived.Test.YtnfbmjphjeifkaaBig
set_option linter.unusedVariables false
set_option maxRecDepth 100000
set_option maxHeartbeats 1000000
namespace Go.Proofs.Ytnfbmjphjeifkaa
open Go Go.RowKit
theorem tbI_bd (f : Nat → Nat) (k c : Nat) (hk : k ≤ 36) : 0 ≤ tbI f k c ∧ tbI f k c ≤ 36 := by
  have := tbl_le f k c
  unfold tbI
  omega
theorem tb_set (f : Nat → Nat) (k C : Nat) (hC : C = f k) (i : Nat) : (if i = C then tbI f k C + 1 else tbI f k i) = tbI f (k + 1) i := by subst hC; exact tbI_step f k i
theorem l9Table_n (n m : Nat) (w : World) : Calls Try.prog 97 #[(.agg #[.int .i64 (rw n 0), .int .i64 (rw n 1), .int .i64 (rw n 2), .int .i64 (rw n 3), .int .i64 (rw n 4), .int .i64 (rw n 5)]), (.agg #[.int .i64 (rw m 0), .int .i64 (rw m 1), .int .i64 (rw m 2), .int .i64 (rw m 3), .int .i64 (rw m 4), .int .i64 (rw m 5)])] w fun e w' => e = .returned (.agg (av 37 (tbI (cm n m) 36))) ∧ Ext w w' := by
  skip
  go_enter Try.func97, Try.ntmps97
  go_wp2_with (first | (refine wpList_value rfl (build37 rfl) ?_; (try go_simp)) | (refine wpList_alloc_av rfl (makes37 rfl) ?_; (try go_simp)) | (refine wpList_store_new rfl rfl rfl rfl (b := w.heap.size + 3) (Big.new _ _ 37 _ (by simp)) (szz _ _ _) (sz37 _) (av_one _ _) ?_; intro w1 hO hN; (try go_simp)))
  have hxw : Ext w w1 := hO.ext (by (repeat' (first | (with_reducible exact Ext.refl _) | (with_reducible assumption) | (with_reducible refine Ext.alloc ?_ _) | (with_reducible refine Ext.drew ?_) | (with_reducible refine Ext.drewN ?_ _) | (with_reducible refine Ext.setCell ?_ ?_ _) | (with_reducible refine Ext.trans ?_ (by assumption)))) <;> (first | (with_reducible assumption) | omega | (simp; done) | (simp; omega))) (by omega)
  have HA := Lib.hid (((((Arr.new w (rw n) 26 rfl).alloc _ (by simp)).alloc _ (by first | (simp; done) | (simp; omega))).alloc _ (by first | (simp; done) | (simp; omega))).only hO (by omega))
  have HB := Lib.hid ((((Arr.new (w.alloc (.cells #[.int .i64 (rw n 0), .int .i64 (rw n 1), .int .i64 (rw n 2), .int .i64 (rw n 3), .int .i64 (rw n 4), .int .i64 (rw n 5)] 26)) (rw m) 26 (b := w.heap.size + 1) (by simp)).alloc _ (by simp)).alloc _ (by first | (simp; done) | (simp; omega))).only hO (by omega))
  have HR := Lib.hid (((Big.new37 ((w.alloc (.cells #[.int .i64 (rw n 0), .int .i64 (rw n 1), .int .i64 (rw n 2), .int .i64 (rw n 3), .int .i64 (rw n 4), .int .i64 (rw n 5)] 26)).alloc (.cells #[.int .i64 (rw m 0), .int .i64 (rw m 1), .int .i64 (rw m 2), .int .i64 (rw m 3), .int .i64 (rw m 4), .int .i64 (rw m 5)] 26)) 94 (b := w.heap.size + 2) (by simp)).ext ((Ext.refl _).alloc _)).only hO (by omega))
  have HT := Lib.hid (show Big w1 (w.heap.size + 3) 94 37 (fun _ => 0) from hN)
  clear hO hN
  go_loopw [6] (fun i wr => ∃ y : Nat, y ≤ 6 ∧ i = .int .i64 y ∧ Ext w wr ∧ Arr wr w.heap.size (rw n) ∧ Arr wr (w.heap.size + 1) (rw m) ∧ Big wr (w.heap.size + 2) 94 37 (fun _ => 0) ∧ Big wr (w.heap.size + 3) 94 37 (tbI (cm n m) (6 * y))) (fun i _ => 6 - (intOf i).toNat)
  case atStart => exact ⟨0, Nat.zero_le _, rfl, hxw, HA.out, HB.out, HR.out, HT.out.congr fun i _ => by rw [Nat.mul_zero, tbI_0]⟩
  case round =>
    obtain ⟨y, hy6, rfl, hx, ha, hb, hr, ht⟩ := hrel
    clear HA HB HR HT
    have HA := Lib.hid ha
    have HB := Lib.hid hb
    have HR := Lib.hid hr
    have HT := Lib.hid ht
    clear ha hb hr ht
    by_cases hlt : y < 6
    · have hd : decide ((y : Int) < 6) = true := decide_eq_true (by omega)
      go_wp2
      go_loopw [7] (fun i wr => ∃ x : Nat, x ≤ 6 ∧ i = .int .i64 x ∧ Ext w wr ∧ Arr wr w.heap.size (rw n) ∧ Arr wr (w.heap.size + 1) (rw m) ∧ Big wr (w.heap.size + 2) 94 37 (fun _ => 0) ∧ Big wr (w.heap.size + 3) 94 37 (tbI (cm n m) (6 * y + x))) (fun i _ => 6 - (intOf i).toNat)
      case atStart => exact ⟨0, Nat.zero_le _, rfl, hx, HA.out, HB.out, HR.out, HT.out⟩
      case round =>
        clear HA HB HR HT hx
        obtain ⟨x, hx6, rfl, hx, ha, hb, hr, ht⟩ := hrel
        obtain ⟨wo, rfl⟩ : ∃ wo : World, wo = wr := ⟨_, rfl⟩
        have HA := Lib.hid ha
        have HB := Lib.hid hb
        have HR := Lib.hid hr
        have HT := Lib.hid ht
        clear ha hb hr ht
        by_cases hlx : x < 6
        · obtain ⟨⟨c0, c1, c2, c3, c4, c5⟩, _⟩ := HA.out.all
          obtain ⟨⟨d0, d1, d2, d3, d4, d5⟩, _⟩ := HB.out.all
          have zt := HT.out.lt
          have za : w.heap.size < wo.heap.size := by omega
          have zb : w.heap.size + 1 < wo.heap.size := by omega
          have H1 := Lib.hid (fun w => l2Shift_n m (x : Int) (y : Int) w)
          rw [show m6 (x : Int) = x by unfold m6; omega, show m6 (y : Int) = y by unfold m6; omega] at H1
          have H2 := Lib.hid (fun w => l2And_n n (sh m x y) w)
          have H3 := Lib.hid (fun w => l2Count_n (n &&& sh m x y) w)
          have hF : cm n m (6 * y + x) = cnt (n &&& sh m x y) := by unfold cm; rw [show (6 * y + x) % 6 = x by omega, show (6 * y + x) / 6 = y by omega]
          rw [← hF] at H3
          obtain ⟨C, hC⟩ : ∃ C, C = cm n m (6 * y + x) := ⟨_, rfl⟩
          have hcm : C ≤ 36 := hC ▸ cm_le n m _
          rw [← hC] at H3
          have HC := Lib.hid hC
          clear hF hC
          obtain ⟨b0, b1⟩ := tbI_bd (cm n m) (6 * y + x) C (by omega)
          have ct := HT.out.cell (j := C) (by omega)
          go_wp2
          refine wp_calm 11 0 (fun _ => (#[], 0)) (by kernel_rfl) (by kernel_rfl) ?_; simp only [List.take_succ_cons, List.take_zero, List.drop_succ_cons, List.drop_zero]; intro hgr; (refine walkQ_step (fun K hK => ?_); go_simp; (try (go_ints; try go_simp)); first | (refine hK _ ?_; clear hK K) | (apply Exists.intro; refine ⟨fun _ => ?_, hK _ ?_⟩; (first | (go_at_call 122; exact (H1.out _)) | (go_at_call 76; exact (H2.out _)) | (go_at_call 100; exact (H3.out _))); clear hK K) | (simp only [↓IntWalk.iteOmega]; (try go_simp); (try (go_ints; try go_simp)); first | (refine hK _ ?_; clear hK K) | (apply Exists.intro; refine ⟨fun _ => ?_, hK _ ?_⟩; (first | (go_at_call 122; exact (H1.out _)) | (go_at_call 76; exact (H2.out _)) | (go_at_call 100; exact (H3.out _))); clear hK K))); (refine walkQ_step (fun K hK => ?_); go_simp; (try (go_ints; try go_simp)); first | (refine hK _ ?_; clear hK K) | (apply Exists.intro; refine ⟨fun _ => ?_, hK _ ?_⟩; (first | (go_at_call 122; exact (H1.out _)) | (go_at_call 76; exact (H2.out _)) | (go_at_call 100; exact (H3.out _))); clear hK K) | (simp only [↓IntWalk.iteOmega]; (try go_simp); (try (go_ints; try go_simp)); first | (refine hK _ ?_; clear hK K) | (apply Exists.intro; refine ⟨fun _ => ?_, hK _ ?_⟩; (first | (go_at_call 122; exact (H1.out _)) | (go_at_call 76; exact (H2.out _)) | (go_at_call 100; exact (H3.out _))); clear hK K))); (refine walkQ_step (fun K hK => ?_); go_simp; (try (go_ints; try go_simp)); first | (refine hK _ ?_; clear hK K) | (apply Exists.intro; refine ⟨fun _ => ?_, hK _ ?_⟩; (first | (go_at_call 122; exact (H1.out _)) | (go_at_call 76; exact (H2.out _)) | (go_at_call 100; exact (H3.out _))); clear hK K) | (simp only [↓IntWalk.iteOmega]; (try go_simp); (try (go_ints; try go_simp)); first | (refine hK _ ?_; clear hK K) | (apply Exists.intro; refine ⟨fun _ => ?_, hK _ ?_⟩; (first | (go_at_call 122; exact (H1.out _)) | (go_at_call 76; exact (H2.out _)) | (go_at_call 100; exact (H3.out _))); clear hK K))); (refine walkQ_step (fun K hK => ?_); go_simp; (try (go_ints; try go_simp)); first | (refine hK _ ?_; clear hK K) | (apply Exists.intro; refine ⟨fun _ => ?_, hK _ ?_⟩; (first | (go_at_call 122; exact (H1.out _)) | (go_at_call 76; exact (H2.out _)) | (go_at_call 100; exact (H3.out _))); clear hK K) | (simp only [↓IntWalk.iteOmega]; (try go_simp); (try (go_ints; try go_simp)); first | (refine hK _ ?_; clear hK K) | (apply Exists.intro; refine ⟨fun _ => ?_, hK _ ?_⟩; (first | (go_at_call 122; exact (H1.out _)) | (go_at_call 76; exact (H2.out _)) | (go_at_call 100; exact (H3.out _))); clear hK K))); (refine walkQ_step (fun K hK => ?_); go_simp; (try (go_ints; try go_simp)); first | (refine hK _ ?_; clear hK K) | (apply Exists.intro; refine ⟨fun _ => ?_, hK _ ?_⟩; (first | (go_at_call 122; exact (H1.out _)) | (go_at_call 76; exact (H2.out _)) | (go_at_call 100; exact (H3.out _))); clear hK K) | (simp only [↓IntWalk.iteOmega]; (try go_simp); (try (go_ints; try go_simp)); first | (refine hK _ ?_; clear hK K) | (apply Exists.intro; refine ⟨fun _ => ?_, hK _ ?_⟩; (first | (go_at_call 122; exact (H1.out _)) | (go_at_call 76; exact (H2.out _)) | (go_at_call 100; exact (H3.out _))); clear hK K))); (refine walkQ_step (fun K hK => ?_); go_simp; (try (go_ints; try go_simp)); first | (refine hK _ ?_; clear hK K) | (apply Exists.intro; refine ⟨fun _ => ?_, hK _ ?_⟩; (first | (go_at_call 122; exact (H1.out _)) | (go_at_call 76; exact (H2.out _)) | (go_at_call 100; exact (H3.out _))); clear hK K) | (simp only [↓IntWalk.iteOmega]; (try go_simp); (try (go_ints; try go_simp)); first | (refine hK _ ?_; clear hK K) | (apply Exists.intro; refine ⟨fun _ => ?_, hK _ ?_⟩; (first | (go_at_call 122; exact (H1.out _)) | (go_at_call 76; exact (H2.out _)) | (go_at_call 100; exact (H3.out _))); clear hK K))); (refine walkQ_step (fun K hK => ?_); go_simp; (try (go_ints; try go_simp)); first | (refine hK _ ?_; clear hK K) | (apply Exists.intro; refine ⟨fun _ => ?_, hK _ ?_⟩; (first | (go_at_call 122; exact (H1.out _)) | (go_at_call 76; exact (H2.out _)) | (go_at_call 100; exact (H3.out _))); clear hK K) | (simp only [↓IntWalk.iteOmega]; (try go_simp); (try (go_ints; try go_simp)); first | (refine hK _ ?_; clear hK K) | (apply Exists.intro; refine ⟨fun _ => ?_, hK _ ?_⟩; (first | (go_at_call 122; exact (H1.out _)) | (go_at_call 76; exact (H2.out _)) | (go_at_call 100; exact (H3.out _))); clear hK K))); (refine walkQ_step (fun K hK => ?_); go_simp; (try (go_ints; try go_simp)); first | (refine hK _ ?_; clear hK K) | (apply Exists.intro; refine ⟨fun _ => ?_, hK _ ?_⟩; (first | (go_at_call 122; exact (H1.out _)) | (go_at_call 76; exact (H2.out _)) | (go_at_call 100; exact (H3.out _))); clear hK K) | (simp only [↓IntWalk.iteOmega]; (try go_simp); (try (go_ints; try go_simp)); first | (refine hK _ ?_; clear hK K) | (apply Exists.intro; refine ⟨fun _ => ?_, hK _ ?_⟩; (first | (go_at_call 122; exact (H1.out _)) | (go_at_call 76; exact (H2.out _)) | (go_at_call 100; exact (H3.out _))); clear hK K))); (refine walkQ_step (fun K hK => ?_); go_simp; (try (go_ints; try go_simp)); first | (refine hK _ ?_; clear hK K) | (apply Exists.intro; refine ⟨fun _ => ?_, hK _ ?_⟩; (first | (go_at_call 122; exact (H1.out _)) | (go_at_call 76; exact (H2.out _)) | (go_at_call 100; exact (H3.out _))); clear hK K) | (simp only [↓IntWalk.iteOmega]; (try go_simp); (try (go_ints; try go_simp)); first | (refine hK _ ?_; clear hK K) | (apply Exists.intro; refine ⟨fun _ => ?_, hK _ ?_⟩; (first | (go_at_call 122; exact (H1.out _)) | (go_at_call 76; exact (H2.out _)) | (go_at_call 100; exact (H3.out _))); clear hK K))); (refine walkQ_step (fun K hK => ?_); go_simp; (try (go_ints; try go_simp)); first | (refine hK _ ?_; clear hK K) | (apply Exists.intro; refine ⟨fun _ => ?_, hK _ ?_⟩; (first | (go_at_call 122; exact (H1.out _)) | (go_at_call 76; exact (H2.out _)) | (go_at_call 100; exact (H3.out _))); clear hK K) | (simp only [↓IntWalk.iteOmega]; (try go_simp); (try (go_ints; try go_simp)); first | (refine hK _ ?_; clear hK K) | (apply Exists.intro; refine ⟨fun _ => ?_, hK _ ?_⟩; (first | (go_at_call 122; exact (H1.out _)) | (go_at_call 76; exact (H2.out _)) | (go_at_call 100; exact (H3.out _))); clear hK K))); (refine walkQ_step (fun K hK => ?_); go_simp; (try (go_ints; try go_simp)); first | (refine hK _ ?_; clear hK K) | (apply Exists.intro; refine ⟨fun _ => ?_, hK _ ?_⟩; (first | (go_at_call 122; exact (H1.out _)) | (go_at_call 76; exact (H2.out _)) | (go_at_call 100; exact (H3.out _))); clear hK K) | (simp only [↓IntWalk.iteOmega]; (try go_simp); (try (go_ints; try go_simp)); first | (refine hK _ ?_; clear hK K) | (apply Exists.intro; refine ⟨fun _ => ?_, hK _ ?_⟩; (first | (go_at_call 122; exact (H1.out _)) | (go_at_call 76; exact (H2.out _)) | (go_at_call 100; exact (H3.out _))); clear hK K))); refine walkQ_nil ?_; clear hgr; refine walkF_nil ?_; intro w1 hE _; have hc2 := hE.cells; have hf2 := hE.frees; have hz2 := hE.size
          replace hE : Ext wo w1 := ((Ext.refl wo).drew).trans hE
          have HT1 := Lib.hid (HT.out.ext hE)
          have ft := HT1.out.free C
          have ct1 := HT1.out.cell (j := C) (by omega)
          go_wp2
          (first | exact ⟨⟨x + 1, by omega, by go_num, (by (repeat' (first | (with_reducible exact Ext.refl _) | (with_reducible assumption) | (with_reducible refine Ext.alloc ?_ _) | (with_reducible refine Ext.drew ?_) | (with_reducible refine Ext.drewN ?_ _) | (with_reducible refine Ext.setCell ?_ ?_ _) | (with_reducible refine Ext.trans ?_ (by assumption)))) <;> (first | (with_reducible assumption) | omega | (simp; done) | (simp; omega))), (HA.out.ext hE za).far (by dsimp only; omega) _, (HB.out.ext hE zb).far (by dsimp only; omega) _, (HR.out.ext hE).far (by dsimp only; omega) _, (HT1.out.set C _).congr fun i _ => tb_set (cm n m) (6 * y + x) C HC.out i⟩, by simp [intOf]; omega⟩ | (refine ⟨?_, by simp [intOf]; omega⟩; (repeat apply Exists.intro); exact ⟨⟨x + 1, by omega, by go_num, (by (repeat' (first | (with_reducible exact Ext.refl _) | (with_reducible assumption) | (with_reducible refine Ext.alloc ?_ _) | (with_reducible refine Ext.drew ?_) | (with_reducible refine Ext.drewN ?_ _) | (with_reducible refine Ext.setCell ?_ ?_ _) | (with_reducible refine Ext.trans ?_ (by assumption)))) <;> (first | (with_reducible assumption) | omega | (simp; done) | (simp; omega))), (HA.out.ext hE za).far (by dsimp only; omega) _, (HB.out.ext hE zb).far (by dsimp only; omega) _, (HR.out.ext hE).far (by dsimp only; omega) _, (HT1.out.set C _).congr fun i _ => tb_set (cm n m) (6 * y + x) C HC.out i⟩, rfl⟩))
        · obtain rfl : x = 6 := by omega
          go_wp2
          (first | exact ⟨⟨y + 1, by omega, by go_num, hx, HA.out, HB.out, HR.out, by rw [show 6 * (y + 1) = 6 * y + 6 by omega]; exact HT.out⟩, by simp [intOf]; omega⟩ | (refine ⟨?_, by simp [intOf]; omega⟩; (repeat apply Exists.intro); exact ⟨⟨y + 1, by omega, by go_num, hx, HA.out, HB.out, HR.out, by rw [show 6 * (y + 1) = 6 * y + 6 by omega]; exact HT.out⟩, rfl⟩))
    · obtain rfl : y = 6 := by omega
      rw [show 6 * 6 = 36 from rfl] at HT
      go_wp2_with (first | (refine wpList_load_row rfl 94 (.tmp 5) rfl _ rfl _ _ _ _ HT.out Try.underlying94 rfl (sz37 _) ?_; (try go_simp)) | (refine wpList_store_new rfl rfl rfl rfl (b := w.heap.size + 2) HR.out (szz _ _ _) (sz37 _) (av_one _ _) ?_; intro w1 hO hN; (try go_simp)))
      exact bodyPost_ret (results37 rfl rfl hN) rfl ⟨rfl, hO.ext hx (by omega)⟩
end Go.Proofs.Ytnfbmjphjeifkaa
