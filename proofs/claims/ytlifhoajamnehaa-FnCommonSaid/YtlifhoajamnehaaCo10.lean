/- DrawS DrawT: contracts of functions, and lemmas, for this seat. Conditions: as each states. -/
import Derived.Test.YtlifhoajamnehaaCo09
import Derived.Test.YtlifhoajamnehaaCo02
import Derived.Test.YtlifhoajamnehaaCo05
set_option linter.unusedVariables false
set_option linter.unusedSimpArgs false
set_option maxRecDepth 100000
set_option maxHeartbeats 4000000
namespace Go.Proofs.Ytlifhoajamnehaa
open Go Go.RowKit Instr
theorem rw0 (j : Nat) : rw 0 j = 0 := by rw [rw_nat]; unfold rowN; rw [Nat.zero_div]; rfl
theorem cSheet_n (c m : Nat) (hm : m + 100 ≤ 1099511627776) (w : World) (h : Cur c m w) : Calls Try.prog 136 #[.pointer (some ⟨c, 0, none⟩)] w fun e w' => ∃ r : Nat → Int, e = .returned (.agg #[.int .i64 (r 0), .int .i64 (r 1), .int .i64 (r 2), .int .i64 (r 3), .int .i64 (r 4), .int .i64 (r 5)]) ∧ Cur c (m + 100) w' ∧ Off (fun k => k = c) w w' := by
  have hcw := h.1
  have hpc : w.heap.size ≠ c := by omega
  have HC := Lib.hid (cur_ext h ((Ext.refl w).alloc (.cells #[.int .i64 0, .int .i64 0, .int .i64 0, .int .i64 0, .int .i64 0, .int .i64 0] 26)))
  have HO := Lib.hid (((Ext.refl w).alloc (.cells #[.int .i64 0, .int .i64 0, .int .i64 0, .int .i64 0, .int .i64 0, .int .i64 0] 26)).off (fun k => k = c))
  have HR := Lib.hid (Arr.new0 w 26 rfl)
  clear h
  go_enter Try.func136, Try.ntmps136
  go_wp2_with (go_at_call 88; refine (among_n c m [2, 4, 3, 1, 6] (by decide) (by decide) (by omega) _ _ (cur_ext HC.out ((Ext.refl _).alloc _)) (lst_newb (w.alloc (.cells #[.int .i64 0, .int .i64 0, .int .i64 0, .int .i64 0, .int .i64 0, .int .i64 0] 26)) c [2, 4, 3, 1, 6] 3 (by simp; omega) 5 5 (by decide) (w.heap.size + 1) (by simp))).mono ?_; rintro e w1 ⟨x, hx, rfl, hc, hO⟩; obtain ⟨f, rfl, hf1, hf2⟩ : ∃ f : Nat, x = f ∧ 1 ≤ f ∧ f ≤ 6 := (by simp at hx; exact ⟨x.toNat, by omega, by omega, by omega⟩); obtain ⟨wa, rfl⟩ : ∃ x, x = w1 := ⟨_, rfl⟩)
  have hwa : w.heap.size + 1 < wa.heap.size := by have := hO.size; simp at this; omega
  have hbc : wa.heap.size ≠ c := by omega
  have hcb : c < wa.heap.size := by omega
  have hwb : w.heap.size ≤ wa.heap.size := by omega
  have hpb : w.heap.size ≠ wa.heap.size := by omega
  have HT := Lib.hid (show Sht c (m + 2) w.heap.size wa.heap.size w (wa.alloc (.cells #[.int .i64 0, .int .i64 0, .int .i64 0, .int .i64 0, .int .i64 0, .int .i64 0] 26)) (rw 0) from
    ⟨cur_ext hc ((Ext.refl _).alloc _), ((HO.out.trans (((Ext.refl _).alloc _).off _)).trans hO).trans (((Ext.refl _).alloc _).off _), ((HR.out.alloc _ (by simp)).off hO (by simp; omega) hpc).alloc _ (by omega), by simp; omega, (Arr.new0 wa 26 rfl).congr (fun j _ => (rw0 j).symm), by simp⟩)
  clear hc hO HR HO HC
  go_loopw [5] (fun i wr => ∃ y n : Nat, y ≤ 6 ∧ i = .int .i64 y ∧ Sht c (m + 2 + 2 * (6 * y)) w.heap.size wa.heap.size w wr (rw n)) (fun i _ => 6 - (intOf i).toNat)
  case atStart => exact ⟨0, 0, Nat.zero_le _, rfl, HT.out⟩
  case round =>
    obtain ⟨y, n, hy, rfl, ht⟩ := hrel
    obtain ⟨wo, rfl⟩ : ∃ wo : World, wo = wr := ⟨_, rfl⟩
    replace HT := Lib.hid ht
    clear ht
    by_cases hlt : y < 6
    · have hd : decide ((y : Int) < 6) = true := by simp; omega
      go_wp2
      go_loopw [6] (fun i wr => ∃ x n : Nat, x ≤ 6 ∧ i = .int .i64 x ∧ Sht c (m + 2 + 2 * (6 * y + x)) w.heap.size wa.heap.size w wr (rw n)) (fun i _ => 6 - (intOf i).toNat)
      case atStart => exact ⟨0, n, Nat.zero_le _, rfl, HT.out⟩
      case round =>
        clear HT n
        obtain ⟨x, n, hx, rfl, ht⟩ := hrel
        obtain ⟨wi, rfl⟩ : ∃ wi : World, wi = wr := ⟨_, rfl⟩
        have HT := Lib.hid ht
        clear ht
        by_cases hl2 : x < 6
        · go_wp2_with (first | (go_at_call 82; refine (one_n c (m + 2 + 2 * (6 * y + x)) f (by omega) (by omega) (by omega) _ HT.out.cur).mono ?_; rintro e w1 ⟨q, rfl, hc, hO⟩; replace HT := Lib.hid (HT.out.call hpc hbc hc hO); clear hc hO; obtain ⟨⟨s0, s1, s2, s3, s4, s5⟩, f0, f1, f2, f3, f4, f5⟩ := HT.out.arr.all; cases q) | (go_at_call 153; refine (l2Flip_n n x y hl2 hlt _).mono ?_; rintro e w1 ⟨rfl, hE⟩; replace HT := Lib.hid (HT.out.ext hE); clear s0 s1 s2 s3 s4 s5 f0 f1 f2 f3 f4 f5 hE; obtain ⟨⟨s0, s1, s2, s3, s4, s5⟩, f0, f1, f2, f3, f4, f5⟩ := HT.out.arr.all))
          · exact ⟨⟨x + 1, n, by omega, by go_num, HT.out.mono (by omega)⟩, by simp [intOf]; omega⟩
          · exact ⟨⟨x + 1, _, by omega, by go_num, (HT.out.six hcb hwb hpb (rw _)).mono (by omega)⟩, by simp [intOf]; omega⟩
        · obtain rfl : x = 6 := by omega
          go_wp2
          exact ⟨⟨y + 1, n, by omega, by go_num, HT.out.mono (by omega)⟩, by simp [intOf]; omega⟩
    · obtain rfl : y = 6 := by omega
      have hcp : c < w.heap.size := hcw
      have tk0 := Lib.hid True.intro
      go_wp2_with (first | (clear tk0; (go_at_call 83; refine (pick_n c (m + 2 + 2 * (6 * 6)) 40 (by omega) (by omega) (by omega) _ HT.out.cur).mono ?_; rintro e w1 ⟨q, rfl, hq, hc, hO⟩; replace HT := Lib.hid (HT.out.call hpc hbc hc hO); clear hc hO; obtain ⟨⟨s0, s1, s2, s3, s4, s5⟩, f0, f1, f2, f3, f4, f5⟩ := HT.out.arr.all; obtain ⟨⟨r0, r1, r2, r3, r4, r5⟩, g0, g1, g2, g3, g4, g5⟩ := HT.out.res.all; have hq5 : q = 0 ∨ q = 1 ∨ q = 2 ∨ q = 3 ∨ 4 ≤ q := (by omega); (rcases hq5 with rfl | rfl | rfl | rfl | hq4))))
      · have tk0 := Lib.hid True.intro
        go_wp2_with (first | (clear tk0; (go_at_call 83; refine (pick_n c (m + 2 + 2 * (6 * 6) + 2) 6 (by omega) (by omega) (by omega) _ HT.out.cur).mono ?_; rintro e w1 ⟨q, rfl, hq, hc, hO⟩; replace HT := Lib.hid (HT.out.call hpc hbc hc hO); clear hc hO s0 s1 s2 s3 s4 s5 f0 f1 f2 f3 f4 f5 r0 r1 r2 r3 r4 r5 g0 g1 g2 g3 g4 g5; obtain ⟨wb, rfl⟩ : ∃ x, x = w1 := ⟨_, rfl⟩; have hzb := HT.out.cur.1)) | (go_at_call 88; refine (among_n c (m + 2 + 2 * (6 * 6) + 2 + 2) [-1, 64, 4611686018427387904] (by decide) (by decide) (by omega) _ _ (HT.out.ext ((Ext.refl _).alloc _)).cur (lst_new wb c [-1, 64, 4611686018427387904] 3 hzb 3 3 (by decide))).mono ?_; rintro e w1 ⟨z, hz, rfl, hc, hO⟩; replace HT := Lib.hid ((HT.out.ext ((Ext.refl _).alloc _)).call hpc hbc hc hO); clear hc hO; obtain ⟨⟨s0, s1, s2, s3, s4, s5⟩, f0, f1, f2, f3, f4, f5⟩ := HT.out.arr.all; obtain ⟨⟨r0, r1, r2, r3, r4, r5⟩, g0, g1, g2, g3, g4, g5⟩ := HT.out.res.all; have hq5 : q = 0 ∨ q = 1 ∨ q = 2 ∨ q = 3 ∨ q = 4 ∨ q = 5 := (by omega); (rcases hq5 with rfl | rfl | rfl | rfl | rfl | rfl)))
        · obtain ⟨o1, o2, o3⟩ := ((HT.out.set hcb hwb hpb (q := 0) (by decide) z).mono (k := m + 100) (by omega)).out hcp (Nat.le_refl _) (fun j => if j = 0 then z else rw n j); exact bodyPost_ret (ret_cell rfl rfl (load_sheet o1)) rfl ⟨fun j => if j = 0 then z else rw n j, rfl, o2, o3⟩
        · obtain ⟨o1, o2, o3⟩ := ((HT.out.set hcb hwb hpb (q := 1) (by decide) z).mono (k := m + 100) (by omega)).out hcp (Nat.le_refl _) (fun j => if j = 1 then z else rw n j); exact bodyPost_ret (ret_cell rfl rfl (load_sheet o1)) rfl ⟨fun j => if j = 1 then z else rw n j, rfl, o2, o3⟩
        · obtain ⟨o1, o2, o3⟩ := ((HT.out.set hcb hwb hpb (q := 2) (by decide) z).mono (k := m + 100) (by omega)).out hcp (Nat.le_refl _) (fun j => if j = 2 then z else rw n j); exact bodyPost_ret (ret_cell rfl rfl (load_sheet o1)) rfl ⟨fun j => if j = 2 then z else rw n j, rfl, o2, o3⟩
        · obtain ⟨o1, o2, o3⟩ := ((HT.out.set hcb hwb hpb (q := 3) (by decide) z).mono (k := m + 100) (by omega)).out hcp (Nat.le_refl _) (fun j => if j = 3 then z else rw n j); exact bodyPost_ret (ret_cell rfl rfl (load_sheet o1)) rfl ⟨fun j => if j = 3 then z else rw n j, rfl, o2, o3⟩
        · obtain ⟨o1, o2, o3⟩ := ((HT.out.set hcb hwb hpb (q := 4) (by decide) z).mono (k := m + 100) (by omega)).out hcp (Nat.le_refl _) (fun j => if j = 4 then z else rw n j); exact bodyPost_ret (ret_cell rfl rfl (load_sheet o1)) rfl ⟨fun j => if j = 4 then z else rw n j, rfl, o2, o3⟩
        · obtain ⟨o1, o2, o3⟩ := ((HT.out.set hcb hwb hpb (q := 5) (by decide) z).mono (k := m + 100) (by omega)).out hcp (Nat.le_refl _) (fun j => if j = 5 then z else rw n j); exact bodyPost_ret (ret_cell rfl rfl (load_sheet o1)) rfl ⟨fun j => if j = 5 then z else rw n j, rfl, o2, o3⟩
      · obtain ⟨o1, o2, o3⟩ := (HT.out.mono (k := m + 100) (by omega)).out hcp (Nat.le_refl _) (fun _ => 0)
        exact bodyPost_ret (ret_cell rfl rfl (load_sheet o1)) rfl ⟨fun _ => 0, rfl, o2, o3⟩
      iterate 2
        · clear s0 s1 s2 s3 s4 s5 f0 f1 f2 f3 f4 f5 r0 r1 r2 r3 r4 r5 g0 g1 g2 g3 g4 g5
          go_loopw [7] (fun i wr => ∃ (y : Nat) (g : Nat → Int), 1 ≤ y ∧ y ≤ 6 ∧ i = .int .i64 y ∧ Sht c (m + 100) w.heap.size wa.heap.size w wr g) (fun i _ => 6 - (intOf i).toNat)
          case atStart => exact ⟨1, _, by omega, by omega, rfl, HT.out.mono (by omega)⟩
          case round =>
            clear HT
            obtain ⟨y, g, hy0, hy, rfl, ht⟩ := hrel
            obtain ⟨wo, rfl⟩ : ∃ wo : World, wo = wr := ⟨_, rfl⟩
            have HT := Lib.hid ht
            clear ht
            obtain ⟨⟨s0, s1, s2, s3, s4, s5⟩, f0, f1, f2, f3, f4, f5⟩ := HT.out.arr.all
            obtain ⟨⟨r0, r1, r2, r3, r4, r5⟩, g0, g1, g2, g3, g4, g5⟩ := HT.out.res.all
            have hy6 : y = 1 ∨ y = 2 ∨ y = 3 ∨ y = 4 ∨ y = 5 ∨ y = 6 := by omega
            rcases hy6 with rfl | rfl | rfl | rfl | rfl | rfl
            · go_wp2
              exact ⟨⟨1 + 1, _, by omega, by omega, by go_num, HT.out.set hcb hwb hpb (q := 1) (by decide) _⟩, by simp [intOf]⟩
            · go_wp2
              exact ⟨⟨2 + 1, _, by omega, by omega, by go_num, HT.out.set hcb hwb hpb (q := 2) (by decide) _⟩, by simp [intOf]⟩
            · go_wp2
              exact ⟨⟨3 + 1, _, by omega, by omega, by go_num, HT.out.set hcb hwb hpb (q := 3) (by decide) _⟩, by simp [intOf]⟩
            · go_wp2
              exact ⟨⟨4 + 1, _, by omega, by omega, by go_num, HT.out.set hcb hwb hpb (q := 4) (by decide) _⟩, by simp [intOf]⟩
            · go_wp2
              exact ⟨⟨5 + 1, _, by omega, by omega, by go_num, HT.out.set hcb hwb hpb (q := 5) (by decide) _⟩, by simp [intOf]⟩
            · go_wp2
              obtain ⟨o1, o2, o3⟩ := HT.out.out hcp (Nat.le_refl _) g
              exact bodyPost_ret (ret_cell rfl rfl (load_sheet o1)) rfl ⟨g, rfl, o2, o3⟩
      · obtain ⟨o1, o2, o3⟩ := (HT.out.mono (k := m + 100) (by omega)).out hcp (Nat.le_refl _) (rw n)
        exact bodyPost_ret (ret_cell rfl rfl (load_sheet o1)) rfl ⟨rw n, rfl, o2, o3⟩
end Go.Proofs.Ytlifhoajamnehaa
set_option linter.unusedVariables false
set_option linter.unusedSimpArgs false
set_option maxRecDepth 100000
set_option maxHeartbeats 4000000
namespace Go.Proofs.Ytlifhoajamnehaa
open Go Go.RowKit Instr
theorem cStamp_n (c m : Nat) (hm : m + 102 ≤ 1099511627776) (w : World) (h : Cur c m w) : Calls Try.prog 135 #[.pointer (some ⟨c, 0, none⟩)] w fun e w' => ∃ r : Nat → Int, e = .returned (.agg #[.int .i64 (r 0), .int .i64 (r 1), .int .i64 (r 2), .int .i64 (r 3), .int .i64 (r 4), .int .i64 (r 5)]) ∧ Cur c (m + 102) w' ∧ Off (fun k => k = c) w w' := by
  have hcw := h.1
  have hcp : c < w.heap.size := hcw
  have hpc : w.heap.size ≠ c := by omega
  have HC := Lib.hid (cur_ext h ((Ext.refl w).alloc (.cells #[.int .i64 0, .int .i64 0, .int .i64 0, .int .i64 0, .int .i64 0, .int .i64 0] 26)))
  have HO := Lib.hid (((Ext.refl w).alloc (.cells #[.int .i64 0, .int .i64 0, .int .i64 0, .int .i64 0, .int .i64 0, .int .i64 0] 26)).off (fun k => k = c))
  have HR := Lib.hid (Arr.new0 w 26 rfl)
  have lHR : w.heap.size < (w.alloc (.cells #[.int .i64 0, .int .i64 0, .int .i64 0, .int .i64 0, .int .i64 0, .int .i64 0] 26)).heap.size := by simp
  have nHR : ¬ (w.heap.size = c) := hpc
  clear h
  skip
  go_enter Try.func135, Try.ntmps135
  go_wp2_with ((go_at_call 82; refine (one_n c m 12 (by omega) (by omega) (by omega) _ (by first | exact HC.out | exact cur_ext HC.out ((Ext.refl _).alloc _) | exact cur_ext HC.out (((Ext.refl _).alloc _).alloc _))).mono ?_; rintro e w1 ⟨b, rfl, hc, hO⟩; replace HC := Lib.hid hc; clear hc; replace HR := Lib.hid (Arr.off (by first | exact HR.out | exact Arr.alloc HR.out _ lHR) hO (by first | exact lHR | (simp; done) | (simp; omega)) nHR); replace lHR := Nat.lt_of_lt_of_le lHR (Nat.le_trans (by first | exact Nat.le_refl _ | (simp; done) | (simp; omega)) hO.size); (try clear hrd0 hrd1 hrd2 hrd3 hrd4 hrd5 hrf0 hrf1 hrf2 hrf3 hrf4 hrf5); obtain ⟨⟨hrd0, hrd1, hrd2, hrd3, hrd4, hrd5⟩, hrf0, hrf1, hrf2, hrf3, hrf4, hrf5⟩ := HR.out.all; replace HO := Lib.hid (Off.trans (by first | exact HO.out | exact HO.out.trans (((Ext.refl _).alloc _).off _) | exact HO.out.trans ((((Ext.refl _).alloc _).alloc _).off _)) hO); clear hO); cases b)
  · have hz1 := HC.out.1
    obtain ⟨wa, rfl⟩ : ∃ x, x = w1 := ⟨_, rfl⟩
    have tk0 := Lib.hid True.intro
    go_wp2_with (first | (clear tk0; ((go_at_call 88; refine (among_n c (m + 2) [2, 3, 2, 6] (by decide) (by decide) (by omega) _ _ (by first | exact HC.out | exact cur_ext HC.out ((Ext.refl _).alloc _) | exact cur_ext HC.out (((Ext.refl _).alloc _).alloc _)) (lst_new wa c [2, 3, 2, 6] 3 hz1 4 4 (by decide))).mono ?_; rintro e w1 ⟨x, hx, rfl, hc, hO⟩; replace HC := Lib.hid hc; clear hc; replace HR := Lib.hid (Arr.off (by first | exact HR.out | exact Arr.alloc HR.out _ lHR) hO (by first | exact lHR | (simp; done) | (simp; omega)) nHR); replace lHR := Nat.lt_of_lt_of_le lHR (Nat.le_trans (by first | exact Nat.le_refl _ | (simp; done) | (simp; omega)) hO.size); (try clear hrd0 hrd1 hrd2 hrd3 hrd4 hrd5 hrf0 hrf1 hrf2 hrf3 hrf4 hrf5); obtain ⟨⟨hrd0, hrd1, hrd2, hrd3, hrd4, hrd5⟩, hrf0, hrf1, hrf2, hrf3, hrf4, hrf5⟩ := HR.out.all; replace HO := Lib.hid (Off.trans (by first | exact HO.out | exact HO.out.trans (((Ext.refl _).alloc _).off _) | exact HO.out.trans ((((Ext.refl _).alloc _).alloc _).off _)) hO); clear hO); obtain ⟨f, rfl, hf1, hf2⟩ : ∃ f : Nat, x = f ∧ 1 ≤ f ∧ f ≤ 6 := (by simp at hx; exact ⟨x.toNat, by omega, by omega, by omega⟩); obtain ⟨wb, rfl⟩ : ∃ x, x = w1 := ⟨_, rfl⟩; have hzb := HC.out.1; have HT := Lib.hid (show Sht c (m + 2 + 2) w.heap.size wb.heap.size w (wb.alloc (.cells #[.int .i64 0, .int .i64 0, .int .i64 0, .int .i64 0, .int .i64 0, .int .i64 0] 26)) (rw 0) from ⟨cur_ext HC.out ((Ext.refl _).alloc _), HO.out.trans (((Ext.refl _).alloc _).off _), HR.out.alloc _ lHR, by simp; omega, (Arr.new0 wb 26 rfl).congr (fun j _ => (rw0 j).symm), by simp⟩))) | (go_at_call 88; refine (among_n c (m + 2 + 2) [3, 2, 1, 4, 5, 0] (by decide) (by decide) (by omega) _ _ (HT.out.ext ((Ext.refl _).alloc _)).cur (lst_newb (wb.alloc (.cells #[.int .i64 0, .int .i64 0, .int .i64 0, .int .i64 0, .int .i64 0, .int .i64 0] 26)) c [3, 2, 1, 4, 5, 0] 3 (by simp; omega) 6 6 (by decide) (wb.heap.size + 1) (by simp))).mono ?_; rintro e w1 ⟨z, hz, rfl, hc, hO⟩; replace HT := Lib.hid ((HT.out.ext ((Ext.refl _).alloc _)).call hpc (by omega) hc hO); clear hc hO; obtain ⟨k, rfl, hk⟩ : ∃ k : Nat, z = k ∧ k ≤ 5 := (by simp at hz; exact ⟨z.toNat, by omega, by omega⟩)))
    have hbc : wb.heap.size ≠ c := by omega
    have hcb : c < wb.heap.size := by omega
    have hwb : w.heap.size ≤ wb.heap.size := by omega
    have hpb : w.heap.size ≠ wb.heap.size := by omega
    clear HC HO HR lHR
    (try clear hrd0 hrd1 hrd2 hrd3 hrd4 hrd5 hrf0 hrf1 hrf2 hrf3 hrf4 hrf5)
    go_loopw [5] (fun i wr => ∃ (q : Nat) (g : Nat → Int), q ≤ 5 ∧ i = .int .i64 q ∧ Sht c (m + 2 + 2 + 2 + 4 * (5 - q)) w.heap.size wb.heap.size w wr g) (fun i _ => (intOf i).toNat)
    case atStart => exact ⟨k, _, hk, rfl, HT.out.mono (by omega)⟩
    case round =>
      clear HT
      obtain ⟨q, g, hq, rfl, ht⟩ := hrel
      obtain ⟨wo, rfl⟩ : ∃ wo : World, wo = wr := ⟨_, rfl⟩
      have HT := Lib.hid ht
      clear ht
      by_cases hq0 : 0 < q
      · have tk0 := Lib.hid True.intro
        go_wp2_with (first | (clear tk0; (go_at_call 83; refine (pick_n c (m + 2 + 2 + 2 + 4 * (5 - q)) f (by omega) (by omega) (by omega) _ HT.out.cur).mono ?_; rintro e w1 ⟨x, rfl, hx, hc, hO⟩; replace HT := Lib.hid (HT.out.call hpc hbc hc hO); clear hc hO)) | (go_at_call 83; refine (pick_n c (m + 2 + 2 + 2 + 4 * (5 - q) + 2) f (by omega) (by omega) (by omega) _ HT.out.cur).mono ?_; rintro e w1 ⟨y, rfl, hy, hc, hO⟩; replace HT := Lib.hid (HT.out.call hpc hbc hc hO); clear hc hO))
        obtain ⟨⟨s0, s1, s2, s3, s4, s5⟩, f0, f1, f2, f3, f4, f5⟩ := HT.out.arr.all
        have hy6 : y = 0 ∨ y = 1 ∨ y = 2 ∨ y = 3 ∨ y = 4 ∨ y = 5 := by omega
        rcases hy6 with rfl | rfl | rfl | rfl | rfl | rfl
        · go_region
          go_wp2
          exact ⟨⟨q - 1, _, by omega, val_int (by omega), ((HT.out.set hcb hwb hpb (q := 0) (by decide) _).ext ((Ext.refl _).drew)).mono (by omega)⟩, by simp [intOf]; omega⟩
        · go_region
          go_wp2
          exact ⟨⟨q - 1, _, by omega, val_int (by omega), ((HT.out.set hcb hwb hpb (q := 1) (by decide) _).ext ((Ext.refl _).drew)).mono (by omega)⟩, by simp [intOf]; omega⟩
        · go_region
          go_wp2
          exact ⟨⟨q - 1, _, by omega, val_int (by omega), ((HT.out.set hcb hwb hpb (q := 2) (by decide) _).ext ((Ext.refl _).drew)).mono (by omega)⟩, by simp [intOf]; omega⟩
        · go_region
          go_wp2
          exact ⟨⟨q - 1, _, by omega, val_int (by omega), ((HT.out.set hcb hwb hpb (q := 3) (by decide) _).ext ((Ext.refl _).drew)).mono (by omega)⟩, by simp [intOf]; omega⟩
        · go_region
          go_wp2
          exact ⟨⟨q - 1, _, by omega, val_int (by omega), ((HT.out.set hcb hwb hpb (q := 4) (by decide) _).ext ((Ext.refl _).drew)).mono (by omega)⟩, by simp [intOf]; omega⟩
        · go_region
          go_wp2
          exact ⟨⟨q - 1, _, by omega, val_int (by omega), ((HT.out.set hcb hwb hpb (q := 5) (by decide) _).ext ((Ext.refl _).drew)).mono (by omega)⟩, by simp [intOf]; omega⟩
      · obtain rfl : q = 0 := by omega
        obtain ⟨⟨s0, s1, s2, s3, s4, s5⟩, f0, f1, f2, f3, f4, f5⟩ := HT.out.arr.all
        obtain ⟨⟨r0, r1, r2, r3, r4, r5⟩, g0, g1, g2, g3, g4, g5⟩ := HT.out.res.all
        go_wp2
        obtain ⟨o1, o2, o3⟩ := (HT.out.mono (k := m + 102) (by omega)).out hcp (Nat.le_refl _) g
        exact bodyPost_ret (ret_cell rfl rfl (load_sheet o1)) rfl ⟨g, rfl, o2, o3⟩
  · go_wp2_with ((go_at_call 136; refine (cSheet_n c (m + 2) (by omega) _ (by first | exact HC.out | exact cur_ext HC.out ((Ext.refl _).alloc _) | exact cur_ext HC.out (((Ext.refl _).alloc _).alloc _))).mono ?_; rintro e w1 ⟨r, rfl, hc, hO⟩; replace HC := Lib.hid hc; clear hc; replace HR := Lib.hid (Arr.off (by first | exact HR.out | exact Arr.alloc HR.out _ lHR) hO (by first | exact lHR | (simp; done) | (simp; omega)) nHR); replace lHR := Nat.lt_of_lt_of_le lHR (Nat.le_trans (by first | exact Nat.le_refl _ | (simp; done) | (simp; omega)) hO.size); (try clear hrd0 hrd1 hrd2 hrd3 hrd4 hrd5 hrf0 hrf1 hrf2 hrf3 hrf4 hrf5); obtain ⟨⟨hrd0, hrd1, hrd2, hrd3, hrd4, hrd5⟩, hrf0, hrf1, hrf2, hrf3, hrf4, hrf5⟩ := HR.out.all; replace HO := Lib.hid (Off.trans (by first | exact HO.out | exact HO.out.trans (((Ext.refl _).alloc _).off _) | exact HO.out.trans ((((Ext.refl _).alloc _).alloc _).off _)) hO); clear hO))
    have o := HR.out.six r
    exact bodyPost_ret (ret_cell rfl rfl (load_sheet o)) rfl ⟨r, rfl, cur_mono (cur_set (cur_set (cur_set (cur_set (cur_set (cur_set HC.out hcp _) hcp _) hcp _) hcp _) hcp _) hcp _) (by omega), (((((HO.out.new (Nat.le_refl _) _).new (Nat.le_refl _) _).new (Nat.le_refl _) _).new (Nat.le_refl _) _).new (Nat.le_refl _) _).new (Nat.le_refl _) _⟩
end Go.Proofs.Ytlifhoajamnehaa
