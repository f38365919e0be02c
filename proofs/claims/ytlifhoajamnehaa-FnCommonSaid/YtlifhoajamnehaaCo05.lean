/- Conv Sl Lists Spread: contracts of functions, and lemmas, for this seat. Conditions: as each states. -/
import Derived.Test.YtlifhoajamnehaaCo01
import Derived.Test.YtlifhoajamnehaaCo04
import Derived.Test.YtlifhoajamnehaaCo03
set_option linter.unusedVariables false
set_option linter.unusedSimpArgs false
set_option maxRecDepth 100000
set_option maxHeartbeats 1000000
namespace Go.Proofs.Ytlifhoajamnehaa
open Go Go.RowKit
end Go.Proofs.Ytlifhoajamnehaa
set_option linter.unusedVariables false
set_option linter.unusedSimpArgs false
set_option maxRecDepth 100000
set_option maxHeartbeats 1000000
namespace Go.Proofs.Ytlifhoajamnehaa
open Go Go.RowKit Instr
end Go.Proofs.Ytlifhoajamnehaa
set_option linter.unusedVariables false
set_option linter.unusedSimpArgs false
set_option maxRecDepth 100000
set_option maxHeartbeats 1000000
namespace Go.Proofs.Ytlifhoajamnehaa
open Go Go.RowKit Instr
theorem list_n (n : Nat) (hn : n < 68719476736) (w : World) : Calls Try.prog 150 #[.int .u64 (n : Int)] w fun e w' => ∃ v, e = .returned v ∧ Ext w w' ∧ w'.ownsRow w.heap.size 3 1 v (fl n.testBit 36).length (ints (fl n.testBit 36)) := by
  obtain ⟨i0, hi, iz0, iz1, iz2⟩ := info_parts info_int
  skip
  go_enter Try.func150, Try.ntmps150
  go_wp2
  go_loopw [3, 6] (fun v i wr => ∃ k : Nat, k ≤ 36 ∧ i = .int .i64 k ∧ Ext w wr ∧ w.heap.size < wr.heap.size ∧ wr.ownsRow w.heap.size 3 1 v (fl n.testBit k).length (ints (fl n.testBit k))) (fun _ i _ => 36 - (intOf i).toNat)
  case atStart => exact ⟨0, Nat.zero_le _, rfl, (by (repeat' (first | (with_reducible exact Ext.refl _) | (with_reducible assumption) | (with_reducible refine Ext.alloc ?_ _) | (with_reducible refine Ext.drew ?_) | (with_reducible refine Ext.drewN ?_ _) | (with_reducible refine Ext.setCell ?_ ?_ _) | (with_reducible refine Ext.trans ?_ (by assumption)))) <;> (first | (with_reducible assumption) | omega | (simp; done) | (simp; omega))), by simp, own_empty _ 3 1 _ (by simp) (by simp)⟩
  case round =>
    obtain ⟨k, hk, rfl, hx, hz, ho⟩ := hrel
    obtain ⟨wo, rfl⟩ : ∃ wo : World, wo = wr := ⟨_, rfl⟩
    have HO := Lib.hid ho
    clear ho
    by_cases hlt : k < 36
    · have hle := fl_le n.testBit k
      have HH := Lib.hid (fun w => has_any n k hn hlt w)
      cases hp : n.testBit k
      · rw [hp] at HH
        have e := fl_miss hp
        rw [← e] at HO
        clear hp e
        go_wp2_with (go_at_call 157; refine (HH.out _).mono ?_; rintro e w' ⟨rfl, rfl⟩)
        refine ⟨⟨k + 1, by omega, by go_num, hx, hz, HO.out⟩, by simp [intOf]; omega⟩
      · rw [hp] at HH
        have e := Lib.hid (fl_hit hp)
        clear hp
        go_wp2_with (first | (go_at_call 157; refine (HH.out _).mono ?_; rintro e w' ⟨rfl, rfl⟩) | (at_builtin; refine wpList_append_own _ rfl _ _ 44 rfl w.heap.size 3 i0 (.int .i64 0) 1 8 Try.underlying44 hi iz0 iz1 iz2 rfl (by decide) _ _ _ rfl (HO.out.alloc _) ⟨_, 0, none⟩ 1 1 [.int .i64 (k : Int)] rfl rfl one_cell (by simp [Value.oneCell']) (by unfold maxLen; omega) (by omega) (by simp; omega) ?_; intro v1 w2 hown hgrow _))
        have HP := Lib.hid (own_push hx (Nat.le_refl _) HO.out hgrow)
        have hs2 := hgrow.size
        refine ⟨⟨k + 1, by omega, by go_num, HP.out.1, by simp at hs2; omega, ?_⟩, by simp [intOf]; omega⟩
        rw [e.out, List.length_append, ints_append]
        exact hown
    · obtain rfl : k = 36 := by omega
      go_wp2
      go_returns
      exact ⟨_, rfl, (by (repeat' (first | (with_reducible exact Ext.refl _) | (with_reducible assumption) | (with_reducible refine Ext.alloc ?_ _) | (with_reducible refine Ext.drew ?_) | (with_reducible refine Ext.drewN ?_ _) | (with_reducible refine Ext.setCell ?_ ?_ _) | (with_reducible refine Ext.trans ?_ (by assumption)))) <;> (first | (with_reducible assumption) | omega | (simp; done) | (simp; omega))), HO.out⟩
/-- a set, spread by a stamp -/
def spr (n m : Nat) : Nat := inkL n (fl m.testBit 36)
end Go.Proofs.Ytlifhoajamnehaa
set_option linter.unusedVariables false
set_option linter.unusedSimpArgs false
set_option maxRecDepth 100000
set_option maxHeartbeats 1000000
namespace Go.Proofs.Ytlifhoajamnehaa
open Go Go.RowKit Instr
/-- does a stamp, pressed at the cell with a number, fit into a sheet? -/
def fitP (n m k : Nat) : Bool := decide (sh m (k % 6) (k / 6) &&& cmp n = 0)
/-- a set, shrunk by a stamp -/
def shr (n m : Nat) : Nat := mkN (fitP n m) 36
theorem shr_lt (n m : Nat) : shr n m < 68719476736 := mk36_lt _
theorem andn64s {a b : Nat} (ha : a < 68719476736) (hb : b < 68719476736) : bits .andNot .u64 (a : Int) (b : Int) = ((a &&& cmp b : Nat) : Int) := by
  rw [u64_andNot_nat a b (by omega) (by omega)]
  refine nat_int (ext36 (and36 _ ha) (and36 _ ha) fun k hk => ?_)
  rw [Nat.testBit_and, Nat.testBit_and, testBit_cmp b k hk, show 18446744073709551615 - b = 2 ^ 64 - (b + 1) by omega, Nat.testBit_two_pow_sub_succ (by omega), show decide (k < 64) = true from decide_eq_true (by omega), Bool.true_and]
theorem shrunk1_any (n m k : Nat) (hn : n < 68719476736) (hm : m < 68719476736) (hk : k < 36) (x y : Nat) (w : World) (hx : x < w.heap.size) (hy : y < w.heap.size) (h1 : w.cell? ⟨x, 0, none⟩ = some (.int .u64 (m : Int))) (h2 : w.cell? ⟨y, 0, none⟩ = some (.int .u64 (n : Int))) :
    Calls Try.prog 151 #[.int .i64 (k : Int), .pointer (some ⟨x, 0, none⟩), .pointer (some ⟨y, 0, none⟩)] w fun e w' => e = .returned (.bool (fitP n m k)) ∧ Ext w w' := by
  have HP := Lib.hid (fun w => pressed_any m k hm hk w)
  unfold fitP
  have hz := sh_lt m (k % 6) (k / 6)
  generalize sh m (k % 6) (k / 6) = z at *
  have e64 := andn64s hz hn
  generalize z &&& cmp n = q at *
  skip
  go_enter Try.func151, Try.ntmps151
  go_wp2
  refine wp_calm0 (by kernel_rfl) (by kernel_rfl) ?_; intro hgr; (refine walkQ_step (fun K hK => ?_); go_simp; (try (go_ints; try go_simp)); first | (refine hK _ ?_; clear hK K) | (apply Exists.intro; refine ⟨fun _ => ?_, hK _ ?_⟩; ((go_at_call 97; exact (HP.out _))); clear hK K) | (simp only [↓IntWalk.iteOmega]; (try go_simp); (try (go_ints; try go_simp)); first | (refine hK _ ?_; clear hK K) | (apply Exists.intro; refine ⟨fun _ => ?_, hK _ ?_⟩; ((go_at_call 97; exact (HP.out _))); clear hK K))); (refine walkQ_step (fun K hK => ?_); go_simp; (try (go_ints; try go_simp)); first | (refine hK _ ?_; clear hK K) | (apply Exists.intro; refine ⟨fun _ => ?_, hK _ ?_⟩; ((go_at_call 97; exact (HP.out _))); clear hK K) | (simp only [↓IntWalk.iteOmega]; (try go_simp); (try (go_ints; try go_simp)); first | (refine hK _ ?_; clear hK K) | (apply Exists.intro; refine ⟨fun _ => ?_, hK _ ?_⟩; ((go_at_call 97; exact (HP.out _))); clear hK K))); (refine walkQ_step (fun K hK => ?_); go_simp; (try (go_ints; try go_simp)); first | (refine hK _ ?_; clear hK K) | (apply Exists.intro; refine ⟨fun _ => ?_, hK _ ?_⟩; ((go_at_call 97; exact (HP.out _))); clear hK K) | (simp only [↓IntWalk.iteOmega]; (try go_simp); (try (go_ints; try go_simp)); first | (refine hK _ ?_; clear hK K) | (apply Exists.intro; refine ⟨fun _ => ?_, hK _ ?_⟩; ((go_at_call 97; exact (HP.out _))); clear hK K))); (refine walkQ_step (fun K hK => ?_); go_simp; (try (go_ints; try go_simp)); first | (refine hK _ ?_; clear hK K) | (apply Exists.intro; refine ⟨fun _ => ?_, hK _ ?_⟩; ((go_at_call 97; exact (HP.out _))); clear hK K) | (simp only [↓IntWalk.iteOmega]; (try go_simp); (try (go_ints; try go_simp)); first | (refine hK _ ?_; clear hK K) | (apply Exists.intro; refine ⟨fun _ => ?_, hK _ ?_⟩; ((go_at_call 97; exact (HP.out _))); clear hK K))); (refine walkQ_step (fun K hK => ?_); go_simp; (try (go_ints; try go_simp)); first | (refine hK _ ?_; clear hK K) | (apply Exists.intro; refine ⟨fun _ => ?_, hK _ ?_⟩; ((go_at_call 97; exact (HP.out _))); clear hK K) | (simp only [↓IntWalk.iteOmega]; (try go_simp); (try (go_ints; try go_simp)); first | (refine hK _ ?_; clear hK K) | (apply Exists.intro; refine ⟨fun _ => ?_, hK _ ?_⟩; ((go_at_call 97; exact (HP.out _))); clear hK K))); (refine walkQ_step (fun K hK => ?_); go_simp; (try (go_ints; try go_simp)); first | (refine hK _ ?_; clear hK K) | (apply Exists.intro; refine ⟨fun _ => ?_, hK _ ?_⟩; ((go_at_call 97; exact (HP.out _))); clear hK K) | (simp only [↓IntWalk.iteOmega]; (try go_simp); (try (go_ints; try go_simp)); first | (refine hK _ ?_; clear hK K) | (apply Exists.intro; refine ⟨fun _ => ?_, hK _ ?_⟩; ((go_at_call 97; exact (HP.out _))); clear hK K))); (refine walkQ_step (fun K hK => ?_); go_simp; (try (go_ints; try go_simp)); first | (refine hK _ ?_; clear hK K) | (apply Exists.intro; refine ⟨fun _ => ?_, hK _ ?_⟩; ((go_at_call 97; exact (HP.out _))); clear hK K) | (simp only [↓IntWalk.iteOmega]; (try go_simp); (try (go_ints; try go_simp)); first | (refine hK _ ?_; clear hK K) | (apply Exists.intro; refine ⟨fun _ => ?_, hK _ ?_⟩; ((go_at_call 97; exact (HP.out _))); clear hK K))); refine walkQ_nil ?_; clear hgr; intro w1 hE; have hc2 := hE.cells; have hf2 := hE.frees; have hz2 := hE.size
  replace hE : Ext w w1 := ((Ext.refl w).drew).trans hE
  go_wp2
  go_returns
  exact ⟨ret_bool (by rw [Bool.eq_iff_iff]; simp; try omega), (by (repeat' (first | (with_reducible exact Ext.refl _) | (with_reducible assumption) | (with_reducible refine Ext.alloc ?_ _) | (with_reducible refine Ext.drew ?_) | (with_reducible refine Ext.drewN ?_ _) | (with_reducible refine Ext.setCell ?_ ?_ _) | (with_reducible refine Ext.trans ?_ (by assumption)))) <;> (first | (with_reducible assumption) | omega | (simp; done) | (simp; omega)))⟩
theorem shrunk_n (n m : Nat) (hn : n < 68719476736) (hm : m < 68719476736) (w : World) : Calls Try.prog 111 #[.int .u64 (n : Int), .int .u64 (m : Int)] w fun e w' => e = .returned (.int .u64 (shr n m : Nat)) ∧ Ext w w' := by
  have HW := Lib.hid (fun (x y : Nat) (w : World) (hx : x < w.heap.size) (hy : y < w.heap.size) (h1 : w.cell? ⟨x, 0, none⟩ = some (.int .u64 (m : Int))) (h2 : w.cell? ⟨y, 0, none⟩ = some (.int .u64 (n : Int))) =>
    where_any 151 #[.pointer (some ⟨x, 0, none⟩), .pointer (some ⟨y, 0, none⟩)] (fitP n m) w Try.call151 fun k hk w' hE =>
      shrunk1_any n m k hn hm hk x y w' (Nat.lt_of_lt_of_le hx hE.size) (Nat.lt_of_lt_of_le hy hE.size) ((hE.cells _ _ hx).trans h1) ((hE.cells _ _ hy).trans h2))
  unfold shr
  generalize mkN (fitP n m) 36 = R at *
  go_enter Try.func111, Try.ntmps111
  go_wp2_with (go_at_call 92; refine (HW.out (w.heap.size + 1) w.heap.size _ (by simp) (by simp; omega) (by go_simp) (by go_simp)).mono ?_; rintro e w1 ⟨rfl, hE⟩)
  go_returns
  exact ⟨rfl, (by (repeat' (first | (with_reducible exact Ext.refl _) | (with_reducible assumption) | (with_reducible refine Ext.alloc ?_ _) | (with_reducible refine Ext.drew ?_) | (with_reducible refine Ext.drewN ?_ _) | (with_reducible refine Ext.setCell ?_ ?_ _) | (with_reducible refine Ext.trans ?_ (by assumption)))) <;> (first | (with_reducible assumption) | omega | (simp; done) | (simp; omega)))⟩
theorem l2Cells_n (n : Nat) (w : World) : Calls Try.prog 152 #[(.agg #[.int .i64 (rw n 0), .int .i64 (rw n 1), .int .i64 (rw n 2), .int .i64 (rw n 3), .int .i64 (rw n 4), .int .i64 (rw n 5)])] w fun e w' => ∃ v, e = .returned v ∧ Ext w w' ∧ w'.ownsRow w.heap.size 33 2 v (fl n.testBit 36).length (pxy (fl n.testBit 36)) := by
  obtain ⟨i0, hi, iz0, iz1, iz2⟩ := info_parts info_two
  skip
  go_enter Try.func152, Try.ntmps152
  go_wp2
  go_loopw [3, 4] (fun v i wr => ∃ y : Nat, y ≤ 6 ∧ i = .int .i64 y ∧ Ext w wr ∧ Arr wr w.heap.size (rw n) ∧ w.heap.size + 1 < wr.heap.size ∧ wr.ownsRow (w.heap.size + 1) 33 2 v (fl n.testBit (6 * y)).length (pxy (fl n.testBit (6 * y)))) (fun _ i _ => 6 - (intOf i).toNat)
  case atStart => exact ⟨0, Nat.zero_le _, rfl, (by (repeat' (first | (with_reducible exact Ext.refl _) | (with_reducible assumption) | (with_reducible refine Ext.alloc ?_ _) | (with_reducible refine Ext.drew ?_) | (with_reducible refine Ext.drewN ?_ _) | (with_reducible refine Ext.setCell ?_ ?_ _) | (with_reducible refine Ext.trans ?_ (by assumption)))) <;> (first | (with_reducible assumption) | omega | (simp; done) | (simp; omega))), (Arr.new w (rw n) _ rfl).alloc _ (by simp), by simp, own_empty _ 33 2 _ (by simp) (by simp)⟩
  case round =>
    obtain ⟨y, hy6, rfl, hx, ha, hz, ho⟩ := hrel
    have HA := Lib.hid ha
    have HO := Lib.hid ho
    clear ha ho
    by_cases hlt : y < 6
    · have hd : decide ((y : Int) < 6) = true := decide_eq_true (by omega)
      go_wp2
      go_loopw [3, 5] (fun v i wr => ∃ x : Nat, x ≤ 6 ∧ i = .int .i64 x ∧ Ext w wr ∧ Arr wr w.heap.size (rw n) ∧ w.heap.size + 1 < wr.heap.size ∧ wr.ownsRow (w.heap.size + 1) 33 2 v (fl n.testBit (6 * y + x)).length (pxy (fl n.testBit (6 * y + x)))) (fun _ i _ => 6 - (intOf i).toNat)
      case atStart => exact ⟨0, Nat.zero_le _, rfl, hx, HA.out, hz, HO.out⟩
      case round =>
        clear HA HO hx hz
        obtain ⟨x, hx6, rfl, hx, ha, hz, ho⟩ := hrel
        obtain ⟨wo, rfl⟩ : ∃ wo : World, wo = wr := ⟨_, rfl⟩
        have HA := Lib.hid ha
        have HO := Lib.hid ho
        clear ha ho
        by_cases hlx : x < 6
        · obtain ⟨⟨c0, c1, c2, c3, c4, c5⟩, _⟩ := HA.out.all
          have za : w.heap.size < wo.heap.size := by omega
          have hle := fl_le n.testBit (6 * y + x)
          have HG := Lib.hid (fun w => l2Get_n n x y hlx hlt w)
          have Q := Lib.hid (show pxy [6 * y + x] = [.int .i64 (x : Int), .int .i64 (y : Int)] by
            show [Value.int .i64 (((6 * y + x) % 6 : Nat) : Int), Value.int .i64 (((6 * y + x) / 6 : Nat) : Int)] = _
            rw [show (6 * y + x) % 6 = x by omega, show (6 * y + x) / 6 = y by omega])
          cases hp : n.testBit (6 * y + x)
          · rw [hp] at HG
            have e := fl_miss hp
            rw [← e] at HO
            clear hp e
            go_wp2_with ((go_at_call 166; refine (HG.out _).mono ?_; rintro e w1 ⟨rfl, hE⟩); have hs := hE.size)
            (first | exact ⟨⟨x + 1, by omega, by go_num, (by (repeat' (first | (with_reducible exact Ext.refl _) | (with_reducible assumption) | (with_reducible refine Ext.alloc ?_ _) | (with_reducible refine Ext.drew ?_) | (with_reducible refine Ext.drewN ?_ _) | (with_reducible refine Ext.setCell ?_ ?_ _) | (with_reducible refine Ext.trans ?_ (by assumption)))) <;> (first | (with_reducible assumption) | omega | (simp; done) | (simp; omega))), HA.out.ext hE za, by omega, own_ext HO.out hE⟩, by simp [intOf]; omega⟩ | (refine ⟨?_, by simp [intOf]; omega⟩; (repeat apply Exists.intro); exact ⟨⟨x + 1, by omega, by go_num, (by (repeat' (first | (with_reducible exact Ext.refl _) | (with_reducible assumption) | (with_reducible refine Ext.alloc ?_ _) | (with_reducible refine Ext.drew ?_) | (with_reducible refine Ext.drewN ?_ _) | (with_reducible refine Ext.setCell ?_ ?_ _) | (with_reducible refine Ext.trans ?_ (by assumption)))) <;> (first | (with_reducible assumption) | omega | (simp; done) | (simp; omega))), HA.out.ext hE za, by omega, own_ext HO.out hE⟩, rfl⟩))
          · rw [hp] at HG
            have e := Lib.hid (fl_hit hp)
            clear hp
            go_wp2_with (first | ((go_at_call 166; refine (HG.out _).mono ?_; rintro e w1 ⟨rfl, hE⟩); have hs := hE.size; have HO1 := Lib.hid (own_ext HO.out hE)) | (at_builtin; refine wpList_append_own _ rfl _ _ 28 rfl (w.heap.size + 1) 33 i0 (.agg #[.int .i64 0, .int .i64 0]) 2 16 Try.underlying28 hi iz0 iz1 iz2 rfl (by decide) _ _ _ rfl (HO1.out.alloc _) ⟨_, 0, none⟩ 1 1 [.int .i64 (x : Int), .int .i64 (y : Int)] rfl rfl two_cells (by simp [Value.oneCell']) (by unfold maxLen; omega) (by omega) (by simp; omega) ?_; intro v1 w2 hown hgrow _))
            have HP := Lib.hid (own_push (hx.trans hE) (by omega) HO1.out hgrow)
            have hs2 := hgrow.size
            (first | exact ⟨⟨x + 1, by omega, by go_num, HP.out.1, HP.out.2 _ _ (by omega) (by omega) (HA.out.ext hE za), by simp at hs2; omega, by rw [show 6 * y + (x + 1) = 6 * y + x + 1 from rfl, e.out, List.length_append, pxy_append, Q.out]; exact hown⟩, by simp [intOf]; omega⟩ | (refine ⟨?_, by simp [intOf]; omega⟩; (repeat apply Exists.intro); exact ⟨⟨x + 1, by omega, by go_num, HP.out.1, HP.out.2 _ _ (by omega) (by omega) (HA.out.ext hE za), by simp at hs2; omega, by rw [show 6 * y + (x + 1) = 6 * y + x + 1 from rfl, e.out, List.length_append, pxy_append, Q.out]; exact hown⟩, rfl⟩))
        · obtain rfl : x = 6 := by omega
          go_wp2
          (first | exact ⟨⟨y + 1, by omega, by go_num, hx, HA.out, hz, by rw [show 6 * (y + 1) = 6 * y + 6 by omega]; exact HO.out⟩, by simp [intOf]; omega⟩ | (refine ⟨?_, by simp [intOf]; omega⟩; (repeat apply Exists.intro); exact ⟨⟨y + 1, by omega, by go_num, hx, HA.out, hz, by rw [show 6 * (y + 1) = 6 * y + 6 by omega]; exact HO.out⟩, rfl⟩))
    · obtain rfl : y = 6 := by omega
      go_wp2
      go_returns
      exact ⟨_, rfl, (by (repeat' (first | (with_reducible exact Ext.refl _) | (with_reducible assumption) | (with_reducible refine Ext.alloc ?_ _) | (with_reducible refine Ext.drew ?_) | (with_reducible refine Ext.drewN ?_ _) | (with_reducible refine Ext.setCell ?_ ?_ _) | (with_reducible refine Ext.trans ?_ (by assumption)))) <;> (first | (with_reducible assumption) | omega | (simp; done) | (simp; omega))), own_mono HO.out (by omega)⟩
theorem l5Spread_n (n m : Nat) (w : World) : Calls Try.prog 165 #[(.agg #[.int .i64 (rw n 0), .int .i64 (rw n 1), .int .i64 (rw n 2), .int .i64 (rw n 3), .int .i64 (rw n 4), .int .i64 (rw n 5)]), (.agg #[.int .i64 (rw m 0), .int .i64 (rw m 1), .int .i64 (rw m 2), .int .i64 (rw m 3), .int .i64 (rw m 4), .int .i64 (rw m 5)])] w fun e w' => e = .returned (.agg #[.int .i64 (rw (spr n m) 0), .int .i64 (rw (spr n m) 1), .int .i64 (rw (spr n m) 2), .int .i64 (rw (spr n m) 3), .int .i64 (rw (spr n m) 4), .int .i64 (rw (spr n m) 5)]) ∧ Ext w w' := by
  have HL := Lib.hid (fun w => l2Cells_n m w)
  have hlen := fl_le m.testBit 36
  have HG := Lib.hid (fun i k (h : (fl m.testBit 36)[i]? = some k) => fl_lt h)
  unfold spr
  generalize fl m.testBit 36 = L at *
  skip
  go_enter Try.func165, Try.ntmps165
  go_wp2_with (go_at_call 152; refine (HL.out _).mono ?_; rintro e w1 ⟨v, rfl, hE, ho⟩; skip; replace HR := Lib.hid ((show Arr _ (w.heap.size + 2) (fun _ => 0) by first | exact HR.out | exact Arr.new _ (fun _ => 0) _ (by first | rfl | (simp; done) | (simp; omega))).ext hE (by first | exact lR | (simp; done) | (simp; omega))); replace lR : w.heap.size + 2 < w1.heap.size := Nat.lt_of_lt_of_le (by first | exact lR | (simp; done) | (simp; omega)) hE.size; (try clear d0 d1 d2 d3 d4 d5 f0 f1 f2 f3 f4 f5); obtain ⟨⟨d0, d1, d2, d3, d4, d5⟩, f0, f1, f2, f3, f4, f5⟩ := HR.out.all; replace HA := Lib.hid ((show Arr _ (w.heap.size) (rw n) by first | with_reducible exact HA.out | with_reducible exact Arr.ext HA.out ((Ext.refl _).alloc _) lHA | with_reducible exact Arr.ext HA.out (((Ext.refl _).alloc _).alloc _) lHA | with_reducible exact Arr.ext HA.out ((((Ext.refl _).alloc _).alloc _).alloc _) lHA | exact HA.out | exact Arr.new _ (rw n) _ (by first | rfl | (simp; done) | (simp; omega)) | exact (Arr.new _ (rw n) _ (by first | rfl | (simp; done) | (simp; omega))).ext ((Ext.refl _).alloc _) (by first | (simp; done) | (simp; omega)) | exact ((Arr.new _ (rw n) _ (by first | rfl | (simp; done) | (simp; omega))).ext ((Ext.refl _).alloc _) (by first | (simp; done) | (simp; omega))).ext ((Ext.refl _).alloc _) (by first | (simp; done) | (simp; omega)) | exact (((Arr.new _ (rw n) _ (by first | rfl | (simp; done) | (simp; omega))).ext ((Ext.refl _).alloc _) (by first | (simp; done) | (simp; omega))).ext ((Ext.refl _).alloc _) (by first | (simp; done) | (simp; omega))).ext ((Ext.refl _).alloc _) (by first | (simp; done) | (simp; omega))).ext hE (by first | exact lHA | (simp; done) | (simp; omega))); replace lHA : w.heap.size < w1.heap.size := Nat.lt_of_lt_of_le (by first | exact lHA | (simp; done) | (simp; omega)) hE.size; (try clear HA0 HA1 HA2 HA3 HA4 HA5); obtain ⟨⟨HA0, HA1, HA2, HA3, HA4, HA5⟩, _⟩ := HA.out.all; replace HB := Lib.hid ((show Arr _ (w.heap.size + 1) (rw m) by first | with_reducible exact HB.out | with_reducible exact Arr.ext HB.out ((Ext.refl _).alloc _) lHB | with_reducible exact Arr.ext HB.out (((Ext.refl _).alloc _).alloc _) lHB | with_reducible exact Arr.ext HB.out ((((Ext.refl _).alloc _).alloc _).alloc _) lHB | exact HB.out | exact Arr.new _ (rw m) _ (by first | rfl | (simp; done) | (simp; omega)) | exact (Arr.new _ (rw m) _ (by first | rfl | (simp; done) | (simp; omega))).ext ((Ext.refl _).alloc _) (by first | (simp; done) | (simp; omega)) | exact ((Arr.new _ (rw m) _ (by first | rfl | (simp; done) | (simp; omega))).ext ((Ext.refl _).alloc _) (by first | (simp; done) | (simp; omega))).ext ((Ext.refl _).alloc _) (by first | (simp; done) | (simp; omega)) | exact (((Arr.new _ (rw m) _ (by first | rfl | (simp; done) | (simp; omega))).ext ((Ext.refl _).alloc _) (by first | (simp; done) | (simp; omega))).ext ((Ext.refl _).alloc _) (by first | (simp; done) | (simp; omega))).ext ((Ext.refl _).alloc _) (by first | (simp; done) | (simp; omega))).ext hE (by first | exact lHB | (simp; done) | (simp; omega))); replace lHB : w.heap.size + 1 < w1.heap.size := Nat.lt_of_lt_of_le (by first | exact lHB | (simp; done) | (simp; omega)) hE.size; (try clear HB0 HB1 HB2 HB3 HB4 HB5); obtain ⟨⟨HB0, HB1, HB2, HB3, HB4, HB5⟩, _⟩ := HB.out.all; obtain ⟨ao, cap, rfl, hsh⟩ := own_shape ho; have HO := Lib.hid ho; clear ho; obtain ⟨wa, rfl⟩ : ∃ x, x = w1 := ⟨_, rfl⟩)
  skip
  obtain ⟨b, hb⟩ : ∃ b, b = wa.heap.size := ⟨_, rfl⟩
  rw [← hb]
  have HQ := Lib.hid hb
  have hbz : wa.heap.size ≤ b := by omega
  clear hb
  go_loopw [7] (fun i wr => ∃ j : Nat, j ≤ L.length ∧ i = .int .i64 j ∧ Ext wa wr ∧ Arr wr w.heap.size (rw n) ∧ Arr wr (w.heap.size + 2) (fun _ => 0) ∧ Arr wr b (rw (inkL n (L.take j))) ∧ b < wr.heap.size) (fun i _ => L.length - (intOf i).toNat)
  case atStart =>
    refine ⟨0, Nat.zero_le _, rfl, (by (repeat' (first | (with_reducible exact Ext.refl _) | (with_reducible assumption) | (with_reducible refine Ext.alloc ?_ _) | (with_reducible refine Ext.drew ?_) | (with_reducible refine Ext.drewN ?_ _) | (with_reducible refine Ext.setCell ?_ ?_ _) | (with_reducible refine Ext.trans ?_ (by assumption)))) <;> (first | (with_reducible assumption) | omega | (simp; done) | (simp; omega))), HA.out.alloc _ lHA, HR.out.alloc _ lR, ?_, by have := HQ.out; simp; omega⟩
    exact (Arr.new0 wa 26 HQ.out).congr fun j _ => (show (0 : Int) = rw 0 j by rw [rw_nat]; unfold rowN; rw [Nat.zero_div]; rfl)
  case round =>
    obtain ⟨j, hj, rfl, hx, ha, hr, ht, hz⟩ := hrel
    obtain ⟨wo, rfl⟩ : ∃ wo : World, wo = wr := ⟨_, rfl⟩
    clear HA HB HR HA0 HA1 HA2 HA3 HA4 HA5 HB0 HB1 HB2 HB3 HB4 HB5 d0 d1 d2 d3 d4 d5 f0 f1 f2 f3 f4 f5
    have HA := Lib.hid ha
    have HR := Lib.hid hr
    have HT := Lib.hid ht
    clear ha hr ht
    have hsz := hx.size
    have za : w.heap.size < wo.heap.size := by omega
    have zr : w.heap.size + 2 < wo.heap.size := by omega
    by_cases hlt : j < L.length
    · obtain ⟨vb, rfl, _, hvb⟩ := hsh (by omega)
      obtain ⟨k, hk⟩ : ∃ k, L[j]? = some k := ⟨L[j], List.getElem?_eq_getElem hlt⟩
      have hk36 := HG.out j k hk
      have p1 := ((own_ext HO.out hx).cellAt (j * 2) (by omega)).trans (pxy_get L j k hk).1
      have p2 := ((own_ext HO.out hx).cellAt (j * 2 + 1) (by omega)).trans (pxy_get L j k hk).2
      have zv : vb < wo.heap.size := by omega
      obtain ⟨⟨c0, c1, c2, c3, c4, c5⟩, _⟩ := HA.out.all
      obtain ⟨⟨t0, t1, t2, t3, t4, t5⟩, _⟩ := HT.out.all
      have H1 := Lib.hid (fun w => l2At_n n (k % 6) (k / 6) (by omega) (by omega) w)
      have H2 := Lib.hid (fun w => l2Or_n (inkL n (L.take j)) (sh n (k % 6) (k / 6)) w)
      have HS := Lib.hid (inkL_step n L j k hk)
      rw [← HS.out] at H2
      clear hk
      generalize k % 6 = kx at *
      generalize k / 6 = ky at *
      go_wp2
      refine wp_calm 8 0 (fun _ => (#[], 0)) (by kernel_rfl) (by kernel_rfl) ?_; simp only [List.take_succ_cons, List.take_zero, List.drop_succ_cons, List.drop_zero]; intro hgr; (refine walkQ_step (fun K hK => ?_); go_simp; (try (go_ints; try go_simp)); first | (refine hK _ ?_; clear hK K) | (apply Exists.intro; refine ⟨fun _ => ?_, hK _ ?_⟩; (first | (go_at_call 154; exact (H1.out _)) | (go_at_call 137; exact (H2.out _))); clear hK K) | (simp only [↓IntWalk.iteOmega]; (try go_simp); (try (go_ints; try go_simp)); first | (refine hK _ ?_; clear hK K) | (apply Exists.intro; refine ⟨fun _ => ?_, hK _ ?_⟩; (first | (go_at_call 154; exact (H1.out _)) | (go_at_call 137; exact (H2.out _))); clear hK K))); (refine walkQ_step (fun K hK => ?_); go_simp; (try (go_ints; try go_simp)); first | (refine hK _ ?_; clear hK K) | (apply Exists.intro; refine ⟨fun _ => ?_, hK _ ?_⟩; (first | (go_at_call 154; exact (H1.out _)) | (go_at_call 137; exact (H2.out _))); clear hK K) | (simp only [↓IntWalk.iteOmega]; (try go_simp); (try (go_ints; try go_simp)); first | (refine hK _ ?_; clear hK K) | (apply Exists.intro; refine ⟨fun _ => ?_, hK _ ?_⟩; (first | (go_at_call 154; exact (H1.out _)) | (go_at_call 137; exact (H2.out _))); clear hK K))); (refine walkQ_step (fun K hK => ?_); go_simp; (try (go_ints; try go_simp)); first | (refine hK _ ?_; clear hK K) | (apply Exists.intro; refine ⟨fun _ => ?_, hK _ ?_⟩; (first | (go_at_call 154; exact (H1.out _)) | (go_at_call 137; exact (H2.out _))); clear hK K) | (simp only [↓IntWalk.iteOmega]; (try go_simp); (try (go_ints; try go_simp)); first | (refine hK _ ?_; clear hK K) | (apply Exists.intro; refine ⟨fun _ => ?_, hK _ ?_⟩; (first | (go_at_call 154; exact (H1.out _)) | (go_at_call 137; exact (H2.out _))); clear hK K))); (refine walkQ_step (fun K hK => ?_); go_simp; (try (go_ints; try go_simp)); first | (refine hK _ ?_; clear hK K) | (apply Exists.intro; refine ⟨fun _ => ?_, hK _ ?_⟩; (first | (go_at_call 154; exact (H1.out _)) | (go_at_call 137; exact (H2.out _))); clear hK K) | (simp only [↓IntWalk.iteOmega]; (try go_simp); (try (go_ints; try go_simp)); first | (refine hK _ ?_; clear hK K) | (apply Exists.intro; refine ⟨fun _ => ?_, hK _ ?_⟩; (first | (go_at_call 154; exact (H1.out _)) | (go_at_call 137; exact (H2.out _))); clear hK K))); (refine walkQ_step (fun K hK => ?_); go_simp; (try (go_ints; try go_simp)); first | (refine hK _ ?_; clear hK K) | (apply Exists.intro; refine ⟨fun _ => ?_, hK _ ?_⟩; (first | (go_at_call 154; exact (H1.out _)) | (go_at_call 137; exact (H2.out _))); clear hK K) | (simp only [↓IntWalk.iteOmega]; (try go_simp); (try (go_ints; try go_simp)); first | (refine hK _ ?_; clear hK K) | (apply Exists.intro; refine ⟨fun _ => ?_, hK _ ?_⟩; (first | (go_at_call 154; exact (H1.out _)) | (go_at_call 137; exact (H2.out _))); clear hK K))); (refine walkQ_step (fun K hK => ?_); go_simp; (try (go_ints; try go_simp)); first | (refine hK _ ?_; clear hK K) | (apply Exists.intro; refine ⟨fun _ => ?_, hK _ ?_⟩; (first | (go_at_call 154; exact (H1.out _)) | (go_at_call 137; exact (H2.out _))); clear hK K) | (simp only [↓IntWalk.iteOmega]; (try go_simp); (try (go_ints; try go_simp)); first | (refine hK _ ?_; clear hK K) | (apply Exists.intro; refine ⟨fun _ => ?_, hK _ ?_⟩; (first | (go_at_call 154; exact (H1.out _)) | (go_at_call 137; exact (H2.out _))); clear hK K))); (refine walkQ_step (fun K hK => ?_); go_simp; (try (go_ints; try go_simp)); first | (refine hK _ ?_; clear hK K) | (apply Exists.intro; refine ⟨fun _ => ?_, hK _ ?_⟩; (first | (go_at_call 154; exact (H1.out _)) | (go_at_call 137; exact (H2.out _))); clear hK K) | (simp only [↓IntWalk.iteOmega]; (try go_simp); (try (go_ints; try go_simp)); first | (refine hK _ ?_; clear hK K) | (apply Exists.intro; refine ⟨fun _ => ?_, hK _ ?_⟩; (first | (go_at_call 154; exact (H1.out _)) | (go_at_call 137; exact (H2.out _))); clear hK K))); (refine walkQ_step (fun K hK => ?_); go_simp; (try (go_ints; try go_simp)); first | (refine hK _ ?_; clear hK K) | (apply Exists.intro; refine ⟨fun _ => ?_, hK _ ?_⟩; (first | (go_at_call 154; exact (H1.out _)) | (go_at_call 137; exact (H2.out _))); clear hK K) | (simp only [↓IntWalk.iteOmega]; (try go_simp); (try (go_ints; try go_simp)); first | (refine hK _ ?_; clear hK K) | (apply Exists.intro; refine ⟨fun _ => ?_, hK _ ?_⟩; (first | (go_at_call 154; exact (H1.out _)) | (go_at_call 137; exact (H2.out _))); clear hK K))); refine walkQ_nil ?_; clear hgr; refine walkF_nil ?_; intro w1 hE _; have hc2 := hE.cells; have hf2 := hE.frees; have hz2 := hE.size
      replace hE : Ext wo w1 := ((Ext.refl wo).drew).trans hE
      have hs := hE.size
      have HT1 := Lib.hid (HT.out.ext hE hz)
      obtain ⟨⟨u0, u1, u2, u3, u4, u5⟩, g0, g1, g2, g3, g4, g5⟩ := HT1.out.all
      go_wp2
      refine ⟨⟨j + 1, by omega, by go_num, (by (repeat' (first | (with_reducible exact Ext.refl _) | (with_reducible assumption) | (with_reducible refine Ext.alloc ?_ _) | (with_reducible refine Ext.drew ?_) | (with_reducible refine Ext.drewN ?_ _) | (with_reducible refine Ext.setCell ?_ ?_ _) | (with_reducible refine Ext.trans ?_ (by assumption)))) <;> (first | (with_reducible assumption) | omega | (simp; done) | (simp; omega))), ?_, ?_, HT1.out.six _, by simp; omega⟩, by simp [intOf]; omega⟩
      · exact ((((((HA.out.ext hE za).far (by dsimp only; omega) _).far (by dsimp only; omega) _).far (by dsimp only; omega) _).far (by dsimp only; omega) _).far (by dsimp only; omega) _).far (by dsimp only; omega) _
      · exact ((((((HR.out.ext hE zr).far (by dsimp only; omega) _).far (by dsimp only; omega) _).far (by dsimp only; omega) _).far (by dsimp only; omega) _).far (by dsimp only; omega) _).far (by dsimp only; omega) _
    · obtain rfl : j = L.length := by omega
      rw [inkL_all] at HT
      obtain ⟨⟨c0, c1, c2, c3, c4, c5⟩, _⟩ := HT.out.all
      obtain ⟨⟨d0, d1, d2, d3, d4, d5⟩, f0, f1, f2, f3, f4, f5⟩ := HR.out.all
      go_wp2
      exact bodyPost_ret (ret_cell rfl rfl (load_sheet (HR.out.six (rw (inkL n L))))) rfl ⟨rfl, (by (repeat' (first | (with_reducible exact Ext.refl _) | (with_reducible assumption) | (with_reducible refine Ext.alloc ?_ _) | (with_reducible refine Ext.drew ?_) | (with_reducible refine Ext.drewN ?_ _) | (with_reducible refine Ext.setCell ?_ ?_ _) | (with_reducible refine Ext.trans ?_ (by assumption)))) <;> (first | (with_reducible assumption) | omega | (simp; done) | (simp; omega)))⟩
end Go.Proofs.Ytlifhoajamnehaa
