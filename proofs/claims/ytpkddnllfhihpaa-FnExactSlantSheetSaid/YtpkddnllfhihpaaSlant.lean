/- Slant: contracts of functions, and lemmas, for this seat. Conditions: as each states. -/
import Derived.Test.YtpkddnllfhihpaaVs
set_option linter.unusedVariables false
set_option maxRecDepth 100000
set_option maxHeartbeats 1000000
namespace Go.Proofs.Ytpkddnllfhihpaa
open Go Go.RowKit
/-- the rows of a slanted sheet -/
def slN (r d : Nat) (y : Nat) : Int := rw (sh r (m6 ((y : Int) * (d : Int))) 0) 0
theorem mul_le (k d : Nat) (hk : k < 6) (hd : d < 6) : 0 ≤ (k : Int) * (d : Int) ∧ (k : Int) * (d : Int) ≤ 30 := by
  have h := Nat.mul_le_mul (show k ≤ 5 by omega) (show d ≤ 5 by omega)
  rw [← Int.natCast_mul]
  omega
theorem row_one (r : Nat) (hr : r < 64) : rw r 0 = (r : Int) ∧ ∀ k, 1 ≤ k → k < 6 → rw r k = 0 := by
  refine ⟨?_, fun k h1 h2 => ?_⟩
  · rw [rw_nat]; unfold rowN; rw [Nat.mul_zero, Nat.pow_zero, Nat.div_one, Nat.mod_eq_of_lt hr]
  · have h64 : r / 2 ^ (6 * k) = 0 := Nat.div_eq_of_lt (Nat.lt_of_lt_of_le hr (show 2 ^ 6 ≤ 2 ^ (6 * k) from Nat.pow_le_pow_right (by omega) (by omega)))
    rw [rw_nat]; unfold rowN; rw [h64]; rfl
theorem l2Shift_row (r k d : Nat) (hr : r < 64) (w : World) : Calls Try.prog 69 #[(.agg #[.int .i64 (r : Int), .int .i64 0, .int .i64 0, .int .i64 0, .int .i64 0, .int .i64 0]), .int .i64 ((k : Int) * (d : Int)), .int .i64 0] w fun e w' => e = .returned (.agg #[.int .i64 (rw (sh r (m6 ((k : Int) * (d : Int))) 0) 0), .int .i64 (rw (sh r (m6 ((k : Int) * (d : Int))) 0) 1), .int .i64 (rw (sh r (m6 ((k : Int) * (d : Int))) 0) 2), .int .i64 (rw (sh r (m6 ((k : Int) * (d : Int))) 0) 3), .int .i64 (rw (sh r (m6 ((k : Int) * (d : Int))) 0) 4), .int .i64 (rw (sh r (m6 ((k : Int) * (d : Int))) 0) 5)]) ∧ Ext w w' := by
  obtain ⟨h0, h⟩ := row_one r hr
  have := l2Shift_n r ((k : Int) * (d : Int)) 0 w
  rw [h0, h 1 (by omega) (by omega), h 2 (by omega) (by omega), h 3 (by omega) (by omega), h 4 (by omega) (by omega), h 5 (by omega) (by omega)] at this
  exact this
theorem sSlantSheet_bad (r d : Int) (h : (inR r 0 63 && inR d 0 5) = false) (w : World) : Calls Try.prog 33 #[.int .i64 r, .int .i64 d] w fun e w' => e = .returned (.tuple #[(.agg #[.int .i64 0, .int .i64 0, .int .i64 0, .int .i64 0, .int .i64 0, .int .i64 0]), .bool false]) ∧ Ext w w' := by
  have HR := Lib.hid (Arr.new0 w 40 rfl)
  obtain ⟨⟨d0, d1, d2, d3, d4, d5⟩, f0, f1, f2, f3, f4, f5⟩ := HR.out.all
  cases h1 : inR r 0 63 <;> cases h2 : inR d 0 5 <;> rw [h1, h2] at h
  all_goals first
    | (exact absurd h (by decide))
    | skip
  all_goals
    clear h
    replace h1 := Lib.hid h1
    replace h2 := Lib.hid h2
    go_enter Try.func33, Try.ntmps33
    have tk0 := Lib.hid True.intro
    go_wp2_with (first | (clear tk0; (go_at_call 65; refine (l1In_is _ _ _ _ h1.out _).mono ?_; rintro e w' ⟨rfl, rfl⟩)) | (go_at_call 65; refine (l1In_is _ _ _ _ h2.out _).mono ?_; rintro e w' ⟨rfl, rfl⟩))
    exact bodyPost_ret (ret_cell_tmp rfl rfl rfl (load_sheet HR.out)) rfl ⟨rfl, (by (repeat' (first | (with_reducible exact Ext.refl _) | (with_reducible assumption) | (with_reducible refine Ext.alloc ?_ _) | (with_reducible refine Ext.drew ?_) | (with_reducible refine Ext.drewN ?_ _) | (with_reducible refine Ext.setCell ?_ ?_ _) | (with_reducible refine Ext.trans ?_ (by assumption)))) <;> (first | (with_reducible assumption) | omega | (simp; done) | (simp; omega)))⟩
theorem sSlantSheet_ok (r d : Nat) (hr : r < 64) (hd : d < 6) (w : World) : Calls Try.prog 33 #[.int .i64 (r : Int), .int .i64 (d : Int)] w fun e w' => e = .returned (.tuple #[(.agg #[.int .i64 (slN r d 0), .int .i64 (slN r d 1), .int .i64 (slN r d 2), .int .i64 (slN r d 3), .int .i64 (slN r d 4), .int .i64 (slN r d 5)]), .bool true]) ∧ Ext w w' := by
  have h1 := Lib.hid ((inR_iff (r : Int) 0 63).2 (by omega))
  have h2 := Lib.hid ((inR_iff (d : Int) 0 5).2 (by omega))
  go_enter Try.func33, Try.ntmps33
  have tk0 := Lib.hid True.intro
  go_wp2_with (first | (clear tk0; (go_at_call 65; refine (l1In_is _ _ _ _ h1.out _).mono ?_; rintro e w' ⟨rfl, rfl⟩)) | (go_at_call 65; refine (l1In_is _ _ _ _ h2.out _).mono ?_; rintro e w' ⟨rfl, rfl⟩))
  go_loopw [7] (fun i wr => ∃ k : Nat, k ≤ 6 ∧ i = .int .i64 k ∧ Ext w wr ∧ Arr wr w.heap.size (fun _ => 0) ∧ Arr wr (w.heap.size + 1) (mixG (slN r d) (fun _ => 0) k) ∧ w.heap.size + 1 < wr.heap.size) (fun i _ => 6 - (intOf i).toNat)
  case atStart =>
    refine ⟨0, Nat.zero_le _, rfl, (by (repeat' (first | (with_reducible exact Ext.refl _) | (with_reducible assumption) | (with_reducible refine Ext.alloc ?_ _) | (with_reducible refine Ext.drew ?_) | (with_reducible refine Ext.drewN ?_ _) | (with_reducible refine Ext.setCell ?_ ?_ _) | (with_reducible refine Ext.trans ?_ (by assumption)))) <;> (first | (with_reducible assumption) | omega | (simp; done) | (simp; omega))), ?_, ?_, by simp⟩
    · exact (Arr.new0 w 40 rfl).alloc _ (by simp)
    · exact (Arr.new0 (w.alloc (.cells #[.int .i64 0, .int .i64 0, .int .i64 0, .int .i64 0, .int .i64 0, .int .i64 0] 40)) 40 (by simp)).congr fun j _ => mixG_0 (slN r d) (fun _ => 0) j
  case round =>
    obtain ⟨k, hk, rfl, hx, hr', hg, hz⟩ := hrel
    obtain ⟨wo, rfl⟩ : ∃ wo : World, wo = wr := ⟨_, rfl⟩
    have HR := Lib.hid hr'
    have HG := Lib.hid hg
    clear hr' hg
    by_cases hlt : k < 6
    · obtain ⟨hm0, hm1⟩ := mul_le k d hlt hd
      have g1 := fld6 (rw (sh r (m6 ((k : Int) * (d : Int))) 0))
      have g2 := idx60 (rw (sh r (m6 ((k : Int) * (d : Int))) 0))
      go_wp2_with ((go_at_call 69; refine (l2Shift_row r k d hr _).mono ?_; rintro e w1 ⟨rfl, hE⟩); have HG1 := Lib.hid (HG.out.ext hE (by omega)); have HR1 := Lib.hid (HR.out.ext hE (by omega)); have hsz := hE.size; obtain ⟨c1, f1⟩ := HG1.out k hlt)
      refine ⟨⟨k + 1, by omega, by go_num, (by (repeat' (first | (with_reducible exact Ext.refl _) | (with_reducible assumption) | (with_reducible refine Ext.alloc ?_ _) | (with_reducible refine Ext.drew ?_) | (with_reducible refine Ext.drewN ?_ _) | (with_reducible refine Ext.setCell ?_ ?_ _) | (with_reducible refine Ext.trans ?_ (by assumption)))) <;> (first | (with_reducible assumption) | omega | (simp; done) | (simp; omega))), ?_, ?_, by simp; omega⟩, by simp [intOf]; omega⟩
      · exact (HR1.out).far (by simp; try omega) _
      · exact ((HG1.out).set (p := k) hlt _).congr (fun j hj => mixG_step _ _ k j _ rfl)
    · obtain rfl : k = 6 := by omega
      obtain ⟨⟨c0, c1, c2, c3, c4, c5⟩, _⟩ := (HG.out.congr (mixG_6 _ _)).all
      obtain ⟨⟨d0, d1, d2, d3, d4, d5⟩, f0, f1, f2, f3, f4, f5⟩ := HR.out.all
      go_wp2
      exact bodyPost_ret (ret_cell_tmp rfl rfl rfl (load_sheet (HR.out.six (slN r d)))) rfl ⟨rfl, (by (repeat' (first | (with_reducible exact Ext.refl _) | (with_reducible assumption) | (with_reducible refine Ext.alloc ?_ _) | (with_reducible refine Ext.drew ?_) | (with_reducible refine Ext.drewN ?_ _) | (with_reducible refine Ext.setCell ?_ ?_ _) | (with_reducible refine Ext.trans ?_ (by assumption)))) <;> (first | (with_reducible assumption) | omega | (simp; done) | (simp; omega)))⟩
theorem SlantSheet_bad (r d : Int) (h : (inR r 0 63 && inR d 0 5) = false) (w : World) : Calls Try.prog 34 #[.int .i64 r, .int .i64 d] w fun e w' => e = .returned (.tuple #[(.agg #[.int .i64 0, .int .i64 0, .int .i64 0, .int .i64 0, .int .i64 0, .int .i64 0]), .bool false]) ∧ Ext w w' := by
  have HR := Lib.hid (Arr.new0 w 40 rfl)
  obtain ⟨⟨d0, d1, d2, d3, d4, d5⟩, f0, f1, f2, f3, f4, f5⟩ := HR.out.all
  have hh : ¬ ((0 ≤ r ∧ r ≤ 63) ∧ 0 ≤ d ∧ d ≤ 5) := fun hh => by
    rw [(inR_iff r 0 63).2 hh.1, (inR_iff d 0 5).2 hh.2] at h; cases h
  clear h
  by_cases a1 : r < 0
  · go_enter Try.func34, Try.ntmps34
    go_wp2
    exact bodyPost_ret (ret_cell_tmp rfl rfl rfl (load_sheet HR.out)) rfl ⟨rfl, (by (repeat' (first | (with_reducible exact Ext.refl _) | (with_reducible assumption) | (with_reducible refine Ext.alloc ?_ _) | (with_reducible refine Ext.drew ?_) | (with_reducible refine Ext.drewN ?_ _) | (with_reducible refine Ext.setCell ?_ ?_ _) | (with_reducible refine Ext.trans ?_ (by assumption)))) <;> (first | (with_reducible assumption) | omega | (simp; done) | (simp; omega)))⟩
  by_cases a2 : 63 < r
  · go_enter Try.func34, Try.ntmps34
    go_wp2
    exact bodyPost_ret (ret_cell_tmp rfl rfl rfl (load_sheet HR.out)) rfl ⟨rfl, (by (repeat' (first | (with_reducible exact Ext.refl _) | (with_reducible assumption) | (with_reducible refine Ext.alloc ?_ _) | (with_reducible refine Ext.drew ?_) | (with_reducible refine Ext.drewN ?_ _) | (with_reducible refine Ext.setCell ?_ ?_ _) | (with_reducible refine Ext.trans ?_ (by assumption)))) <;> (first | (with_reducible assumption) | omega | (simp; done) | (simp; omega)))⟩
  by_cases a3 : d < 0
  · go_enter Try.func34, Try.ntmps34
    go_wp2
    exact bodyPost_ret (ret_cell_tmp rfl rfl rfl (load_sheet HR.out)) rfl ⟨rfl, (by (repeat' (first | (with_reducible exact Ext.refl _) | (with_reducible assumption) | (with_reducible refine Ext.alloc ?_ _) | (with_reducible refine Ext.drew ?_) | (with_reducible refine Ext.drewN ?_ _) | (with_reducible refine Ext.setCell ?_ ?_ _) | (with_reducible refine Ext.trans ?_ (by assumption)))) <;> (first | (with_reducible assumption) | omega | (simp; done) | (simp; omega)))⟩
  · have a4 : 5 < d := by omega
    go_enter Try.func34, Try.ntmps34
    go_wp2
    exact bodyPost_ret (ret_cell_tmp rfl rfl rfl (load_sheet HR.out)) rfl ⟨rfl, (by (repeat' (first | (with_reducible exact Ext.refl _) | (with_reducible assumption) | (with_reducible refine Ext.alloc ?_ _) | (with_reducible refine Ext.drew ?_) | (with_reducible refine Ext.drewN ?_ _) | (with_reducible refine Ext.setCell ?_ ?_ _) | (with_reducible refine Ext.trans ?_ (by assumption)))) <;> (first | (with_reducible assumption) | omega | (simp; done) | (simp; omega)))⟩
theorem SlantSheet_ok (r d : Nat) (hr : r < 64) (hd : d < 6) (w : World) : Calls Try.prog 34 #[.int .i64 (r : Int), .int .i64 (d : Int)] w fun e w' => e = .returned (.tuple #[(.agg #[.int .i64 (slN r d 0), .int .i64 (slN r d 1), .int .i64 (slN r d 2), .int .i64 (slN r d 3), .int .i64 (slN r d 4), .int .i64 (slN r d 5)]), .bool true]) ∧ Ext w w' := by
  go_enter Try.func34, Try.ntmps34
  go_wp2
  go_loopw [24] (fun i wr => ∃ k : Nat, k ≤ 6 ∧ i = .int .i64 k ∧ Ext w wr ∧ Arr wr w.heap.size (fun _ => 0) ∧ Arr wr (w.heap.size + 1) (mixG (slN r d) (fun _ => 0) k) ∧ w.heap.size + 1 < wr.heap.size) (fun i _ => 6 - (intOf i).toNat)
  case atStart =>
    refine ⟨0, Nat.zero_le _, rfl, (by (repeat' (first | (with_reducible exact Ext.refl _) | (with_reducible assumption) | (with_reducible refine Ext.alloc ?_ _) | (with_reducible refine Ext.drew ?_) | (with_reducible refine Ext.drewN ?_ _) | (with_reducible refine Ext.setCell ?_ ?_ _) | (with_reducible refine Ext.trans ?_ (by assumption)))) <;> (first | (with_reducible assumption) | omega | (simp; done) | (simp; omega))), ?_, ?_, by simp⟩
    · exact (Arr.new0 w 40 rfl).alloc _ (by simp)
    · exact (Arr.new0 (w.alloc (.cells #[.int .i64 0, .int .i64 0, .int .i64 0, .int .i64 0, .int .i64 0, .int .i64 0] 40)) 40 (by simp)).congr fun j _ => mixG_0 (slN r d) (fun _ => 0) j
  case round =>
    obtain ⟨k, hk, rfl, hx, hr', hg, hz⟩ := hrel
    obtain ⟨wo, rfl⟩ : ∃ wo : World, wo = wr := ⟨_, rfl⟩
    have HR := Lib.hid hr'
    have HG := Lib.hid hg
    clear hr' hg
    by_cases hlt : k < 6
    · obtain ⟨hm0, hm1⟩ := mul_le k d hlt hd
      go_wp2_with ((go_at_call 70; refine (rowShifted_any r hr ((k : Int) * (d : Int)) _).mono ?_; rintro e w1 ⟨rfl, hE⟩); have HG1 := Lib.hid (HG.out.ext hE (by omega)); have HR1 := Lib.hid (HR.out.ext hE (by omega)); have hsz := hE.size; obtain ⟨c1, f1⟩ := HG1.out k hlt)
      refine ⟨⟨k + 1, by omega, by go_num, (by (repeat' (first | (with_reducible exact Ext.refl _) | (with_reducible assumption) | (with_reducible refine Ext.alloc ?_ _) | (with_reducible refine Ext.drew ?_) | (with_reducible refine Ext.drewN ?_ _) | (with_reducible refine Ext.setCell ?_ ?_ _) | (with_reducible refine Ext.trans ?_ (by assumption)))) <;> (first | (with_reducible assumption) | omega | (simp; done) | (simp; omega))), ?_, ?_, by simp; omega⟩, by simp [intOf]; omega⟩
      · exact (HR1.out).far (by simp; try omega) _
      · exact ((HG1.out).set (p := k) hlt _).congr (fun j hj => mixG_step _ _ k j _ rfl)
    · obtain rfl : k = 6 := by omega
      obtain ⟨⟨c0, c1, c2, c3, c4, c5⟩, _⟩ := (HG.out.congr (mixG_6 _ _)).all
      obtain ⟨⟨d0, d1, d2, d3, d4, d5⟩, f0, f1, f2, f3, f4, f5⟩ := HR.out.all
      go_wp2
      exact bodyPost_ret (ret_cell_tmp rfl rfl rfl (load_sheet (HR.out.six (slN r d)))) rfl ⟨rfl, (by (repeat' (first | (with_reducible exact Ext.refl _) | (with_reducible assumption) | (with_reducible refine Ext.alloc ?_ _) | (with_reducible refine Ext.drew ?_) | (with_reducible refine Ext.drewN ?_ _) | (with_reducible refine Ext.setCell ?_ ?_ _) | (with_reducible refine Ext.trans ?_ (by assumption)))) <;> (first | (with_reducible assumption) | omega | (simp; done) | (simp; omega)))⟩
end Go.Proofs.Ytpkddnllfhihpaa
