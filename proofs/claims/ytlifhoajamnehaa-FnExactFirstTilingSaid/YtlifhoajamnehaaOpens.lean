/- Opens: contracts of functions, and lemmas, for this seat. Conditions: as each states. -/
import Derived.Test.YtlifhoajamnehaaSpread
import Derived.Test.YtlifhoajamnehaaSl
set_option linter.unusedVariables false
set_option maxRecDepth 100000
set_option maxHeartbeats 1000000
namespace Go.Proofs.Ytlifhoajamnehaa
open Go Go.RowKit Instr
theorem pxy_Gl (L : List Nat) : ∃ g, pxy L = Gl (L.length * 2) g := by
  obtain ⟨g, hg⟩ := Gl_of (xs := pxy L) (fun u hu => by
    obtain ⟨d, _, h⟩ := List.mem_flatMap.1 hu
    simp at h
    rcases h with rfl | rfl
    · exact ⟨_, rfl⟩
    · exact ⟨_, rfl⟩)
  exact ⟨g, by rw [pxy_length] at hg; exact hg⟩
/-- is a set, pressed at the cell with a number, part of a target? (the stamp first) -/
def opP (m n k : Nat) : Bool := decide (sh m (k % 6) (k / 6) &&& cmp n = 0)
theorem l6Open_n (m n : Nat) (w : World) : Calls Try.prog 121 #[(.agg #[.int .i64 (rw m 0), .int .i64 (rw m 1), .int .i64 (rw m 2), .int .i64 (rw m 3), .int .i64 (rw m 4), .int .i64 (rw m 5)]), (.agg #[.int .i64 (rw n 0), .int .i64 (rw n 1), .int .i64 (rw n 2), .int .i64 (rw n 3), .int .i64 (rw n 4), .int .i64 (rw n 5)])] w fun e w' => ∃ v, e = .returned v ∧ Ext w w' ∧ w'.ownsRow w.heap.size 33 2 v (fl (opP m n) 36).length (pxy (fl (opP m n) 36)) := by
  obtain ⟨i0, hi, iz0, iz1, iz2⟩ := info_parts info_two
  skip
  go_enter Try.func121, Try.ntmps121
  go_wp2
  go_loopw [5, 6] (fun v i wr => ∃ k : Nat, k ≤ 36 ∧ i = .int .i64 k ∧ Ext w wr ∧ Arr wr w.heap.size (rw m) ∧ Arr wr (w.heap.size + 1) (rw n) ∧ w.heap.size + 2 < wr.heap.size ∧ wr.ownsRow (w.heap.size + 2) 33 2 v (fl (opP m n) k).length (pxy (fl (opP m n) k))) (fun _ i _ => 36 - (intOf i).toNat)
  case atStart =>
    refine ⟨0, Nat.zero_le _, rfl, (by (repeat' (first | (with_reducible exact Ext.refl _) | (with_reducible assumption) | (with_reducible refine Ext.alloc ?_ _) | (with_reducible refine Ext.drew ?_) | (with_reducible refine Ext.drewN ?_ _) | (with_reducible refine Ext.setCell ?_ ?_ _) | (with_reducible refine Ext.trans ?_ (by assumption)))) <;> (first | (with_reducible assumption) | omega | (simp; done) | (simp; omega))), ?_, ?_, by simp, ?_⟩
    · exact ((Arr.new w (rw m) _ rfl).alloc _ (by simp)).alloc _ (by simp; omega)
    · exact (Arr.new _ (rw n) _ (by simp)).alloc _ (by simp)
    · exact own_empty _ 33 2 _ (by simp) (by simp)
  case round =>
    obtain ⟨k, hk, rfl, hx, ha, hb, hz, ho⟩ := hrel
    obtain ⟨wo, rfl⟩ : ∃ wo : World, wo = wr := ⟨_, rfl⟩
    have HA := Lib.hid ha
    have HB := Lib.hid hb
    have HO := Lib.hid ho
    clear ha hb ho
    by_cases hlt : k < 36
    · obtain ⟨⟨c0, c1, c2, c3, c4, c5⟩, _⟩ := HA.out.all
      obtain ⟨⟨d0, d1, d2, d3, d4, d5⟩, _⟩ := HB.out.all
      have za : w.heap.size < wo.heap.size := by omega
      have zb : w.heap.size + 1 < wo.heap.size := by omega
      have hle := fl_le (opP m n) k
      have H1 := Lib.hid (fun w => l2At_n m (k % 6) (k / 6) (by omega) (by omega) w)
      have H2 := Lib.hid (fun w => l2Part_n (sh m (k % 6) (k / 6)) n (sh_lt _ _ _) _ (rfl : opP m n k = _) w)
      have q1 : (k : Int) % 6 = ((k % 6 : Nat) : Int) := by omega
      have q2 : (k : Int) / 6 = ((k / 6 : Nat) : Int) := by omega
      have Q := Lib.hid (show pxy [k] = [.int .i64 ((k % 6 : Nat) : Int), .int .i64 ((k / 6 : Nat) : Int)] from rfl)
      cases hp : opP m n k
      · rw [hp] at H2
        have e := fl_miss hp
        rw [← e] at HO
        clear hp e
        generalize k % 6 = kx at *
        generalize k / 6 = ky at *
        go_wp2
        refine wp_calm0 (by kernel_rfl) (by kernel_rfl) ?_; intro hgr; (refine walkQ_step (fun K hK => ?_); go_simp; (try (go_ints; try go_simp)); first | (refine hK _ ?_; clear hK K) | (apply Exists.intro; refine ⟨fun _ => ?_, hK _ ?_⟩; (first | (go_at_call 154; exact (H1.out _)) | (go_at_call 155; exact (H2.out _))); clear hK K) | (simp only [↓IntWalk.iteOmega]; (try go_simp); (try (go_ints; try go_simp)); first | (refine hK _ ?_; clear hK K) | (apply Exists.intro; refine ⟨fun _ => ?_, hK _ ?_⟩; (first | (go_at_call 154; exact (H1.out _)) | (go_at_call 155; exact (H2.out _))); clear hK K))); (refine walkQ_step (fun K hK => ?_); go_simp; (try (go_ints; try go_simp)); first | (refine hK _ ?_; clear hK K) | (apply Exists.intro; refine ⟨fun _ => ?_, hK _ ?_⟩; (first | (go_at_call 154; exact (H1.out _)) | (go_at_call 155; exact (H2.out _))); clear hK K) | (simp only [↓IntWalk.iteOmega]; (try go_simp); (try (go_ints; try go_simp)); first | (refine hK _ ?_; clear hK K) | (apply Exists.intro; refine ⟨fun _ => ?_, hK _ ?_⟩; (first | (go_at_call 154; exact (H1.out _)) | (go_at_call 155; exact (H2.out _))); clear hK K))); (refine walkQ_step (fun K hK => ?_); go_simp; (try (go_ints; try go_simp)); first | (refine hK _ ?_; clear hK K) | (apply Exists.intro; refine ⟨fun _ => ?_, hK _ ?_⟩; (first | (go_at_call 154; exact (H1.out _)) | (go_at_call 155; exact (H2.out _))); clear hK K) | (simp only [↓IntWalk.iteOmega]; (try go_simp); (try (go_ints; try go_simp)); first | (refine hK _ ?_; clear hK K) | (apply Exists.intro; refine ⟨fun _ => ?_, hK _ ?_⟩; (first | (go_at_call 154; exact (H1.out _)) | (go_at_call 155; exact (H2.out _))); clear hK K))); (refine walkQ_step (fun K hK => ?_); go_simp; (try (go_ints; try go_simp)); first | (refine hK _ ?_; clear hK K) | (apply Exists.intro; refine ⟨fun _ => ?_, hK _ ?_⟩; (first | (go_at_call 154; exact (H1.out _)) | (go_at_call 155; exact (H2.out _))); clear hK K) | (simp only [↓IntWalk.iteOmega]; (try go_simp); (try (go_ints; try go_simp)); first | (refine hK _ ?_; clear hK K) | (apply Exists.intro; refine ⟨fun _ => ?_, hK _ ?_⟩; (first | (go_at_call 154; exact (H1.out _)) | (go_at_call 155; exact (H2.out _))); clear hK K))); (refine walkQ_step (fun K hK => ?_); go_simp; (try (go_ints; try go_simp)); first | (refine hK _ ?_; clear hK K) | (apply Exists.intro; refine ⟨fun _ => ?_, hK _ ?_⟩; (first | (go_at_call 154; exact (H1.out _)) | (go_at_call 155; exact (H2.out _))); clear hK K) | (simp only [↓IntWalk.iteOmega]; (try go_simp); (try (go_ints; try go_simp)); first | (refine hK _ ?_; clear hK K) | (apply Exists.intro; refine ⟨fun _ => ?_, hK _ ?_⟩; (first | (go_at_call 154; exact (H1.out _)) | (go_at_call 155; exact (H2.out _))); clear hK K))); refine walkQ_nil ?_; clear hgr; intro w1 hE; have hc2 := hE.cells; have hf2 := hE.frees; have hz2 := hE.size
        have hE2 : Ext wo w1 := (((Ext.refl wo).alloc _).drew).trans hE
        have hs := hE2.size
        clear hE
        go_wp2
        refine ⟨⟨k + 1, by omega, by go_num, (by (repeat' (first | (with_reducible exact Ext.refl _) | (with_reducible assumption) | (with_reducible refine Ext.alloc ?_ _) | (with_reducible refine Ext.drew ?_) | (with_reducible refine Ext.drewN ?_ _) | (with_reducible refine Ext.setCell ?_ ?_ _) | (with_reducible refine Ext.trans ?_ (by assumption)))) <;> (first | (with_reducible assumption) | omega | (simp; done) | (simp; omega))), HA.out.ext hE2 za, HB.out.ext hE2 zb, by omega, own_ext HO.out hE2⟩, by simp [intOf]; omega⟩
      · rw [hp] at H2
        have e := Lib.hid (fl_hit hp)
        clear hp
        generalize k % 6 = kx at *
        generalize k / 6 = ky at *
        go_wp2
        refine wp_calm0 (by kernel_rfl) (by kernel_rfl) ?_; intro hgr; (refine walkQ_step (fun K hK => ?_); go_simp; (try (go_ints; try go_simp)); first | (refine hK _ ?_; clear hK K) | (apply Exists.intro; refine ⟨fun _ => ?_, hK _ ?_⟩; (first | (go_at_call 154; exact (H1.out _)) | (go_at_call 155; exact (H2.out _))); clear hK K) | (simp only [↓IntWalk.iteOmega]; (try go_simp); (try (go_ints; try go_simp)); first | (refine hK _ ?_; clear hK K) | (apply Exists.intro; refine ⟨fun _ => ?_, hK _ ?_⟩; (first | (go_at_call 154; exact (H1.out _)) | (go_at_call 155; exact (H2.out _))); clear hK K))); (refine walkQ_step (fun K hK => ?_); go_simp; (try (go_ints; try go_simp)); first | (refine hK _ ?_; clear hK K) | (apply Exists.intro; refine ⟨fun _ => ?_, hK _ ?_⟩; (first | (go_at_call 154; exact (H1.out _)) | (go_at_call 155; exact (H2.out _))); clear hK K) | (simp only [↓IntWalk.iteOmega]; (try go_simp); (try (go_ints; try go_simp)); first | (refine hK _ ?_; clear hK K) | (apply Exists.intro; refine ⟨fun _ => ?_, hK _ ?_⟩; (first | (go_at_call 154; exact (H1.out _)) | (go_at_call 155; exact (H2.out _))); clear hK K))); (refine walkQ_step (fun K hK => ?_); go_simp; (try (go_ints; try go_simp)); first | (refine hK _ ?_; clear hK K) | (apply Exists.intro; refine ⟨fun _ => ?_, hK _ ?_⟩; (first | (go_at_call 154; exact (H1.out _)) | (go_at_call 155; exact (H2.out _))); clear hK K) | (simp only [↓IntWalk.iteOmega]; (try go_simp); (try (go_ints; try go_simp)); first | (refine hK _ ?_; clear hK K) | (apply Exists.intro; refine ⟨fun _ => ?_, hK _ ?_⟩; (first | (go_at_call 154; exact (H1.out _)) | (go_at_call 155; exact (H2.out _))); clear hK K))); (refine walkQ_step (fun K hK => ?_); go_simp; (try (go_ints; try go_simp)); first | (refine hK _ ?_; clear hK K) | (apply Exists.intro; refine ⟨fun _ => ?_, hK _ ?_⟩; (first | (go_at_call 154; exact (H1.out _)) | (go_at_call 155; exact (H2.out _))); clear hK K) | (simp only [↓IntWalk.iteOmega]; (try go_simp); (try (go_ints; try go_simp)); first | (refine hK _ ?_; clear hK K) | (apply Exists.intro; refine ⟨fun _ => ?_, hK _ ?_⟩; (first | (go_at_call 154; exact (H1.out _)) | (go_at_call 155; exact (H2.out _))); clear hK K))); (refine walkQ_step (fun K hK => ?_); go_simp; (try (go_ints; try go_simp)); first | (refine hK _ ?_; clear hK K) | (apply Exists.intro; refine ⟨fun _ => ?_, hK _ ?_⟩; (first | (go_at_call 154; exact (H1.out _)) | (go_at_call 155; exact (H2.out _))); clear hK K) | (simp only [↓IntWalk.iteOmega]; (try go_simp); (try (go_ints; try go_simp)); first | (refine hK _ ?_; clear hK K) | (apply Exists.intro; refine ⟨fun _ => ?_, hK _ ?_⟩; (first | (go_at_call 154; exact (H1.out _)) | (go_at_call 155; exact (H2.out _))); clear hK K))); refine walkQ_nil ?_; clear hgr; intro w1 hE; have hc2 := hE.cells; have hf2 := hE.frees; have hz2 := hE.size
        have hE2 : Ext wo w1 := (((Ext.refl wo).alloc _).drew).trans hE
        have p1 : w1.cell? ⟨wo.heap.size, 0, none⟩ = some (.int .i64 (kx : Int)) := (hE.cells wo.heap.size 0 (by simp)).trans (by go_simp)
        have p2 : w1.cell? ⟨wo.heap.size, 1, none⟩ = some (.int .i64 (ky : Int)) := (hE.cells wo.heap.size 1 (by simp)).trans (by go_simp)
        have hs := hE2.size
        have HO1 := Lib.hid (own_ext HO.out hE2)
        clear hE
        go_wp2_with (at_builtin; refine wpList_append_own _ rfl _ _ 28 rfl (w.heap.size + 2) 33 i0 (.agg #[.int .i64 0, .int .i64 0]) 2 16 Try.underlying28 hi iz0 iz1 iz2 rfl (by decide) _ _ _ rfl (HO1.out.alloc _) ⟨_, 0, none⟩ 1 1 [.int .i64 (kx : Int), .int .i64 (ky : Int)] rfl rfl two_cells (by simp [Value.oneCell']) (by unfold maxLen; omega) (by omega) (by simp; omega) ?_; intro v1 w2 hown hgrow _)
        have HP := Lib.hid (own_push (hx.trans hE2) (by omega) HO1.out hgrow)
        have hs2 := hgrow.size
        refine ⟨⟨k + 1, by omega, by go_num, HP.out.1, HP.out.2 _ _ (by omega) (by omega) (HA.out.ext hE2 za), HP.out.2 _ _ (by omega) (by omega) (HB.out.ext hE2 zb), by simp at hs2; omega, ?_⟩, by simp [intOf]; omega⟩
        rw [e.out, List.length_append, pxy_append, Q.out]
        exact hown
    · obtain rfl : k = 36 := by omega
      go_wp2
      go_returns
      exact ⟨_, rfl, (by (repeat' (first | (with_reducible exact Ext.refl _) | (with_reducible assumption) | (with_reducible refine Ext.alloc ?_ _) | (with_reducible refine Ext.drew ?_) | (with_reducible refine Ext.drewN ?_ _) | (with_reducible refine Ext.setCell ?_ ?_ _) | (with_reducible refine Ext.trans ?_ (by assumption)))) <;> (first | (with_reducible assumption) | omega | (simp; done) | (simp; omega))), own_mono HO.out (by omega)⟩
theorem open1_any (m n k : Nat) (hn : n < 68719476736) (hm : m < 68719476736) (hk : k < 36) (x y : Nat) (w : World) (hx : x < w.heap.size) (hy : y < w.heap.size) (h1 : w.cell? ⟨x, 0, none⟩ = some (.int .u64 (m : Int))) (h2 : w.cell? ⟨y, 0, none⟩ = some (.int .u64 (n : Int))) :
    Calls Try.prog 149 #[.int .i64 (k : Int), .pointer (some ⟨x, 0, none⟩), .pointer (some ⟨y, 0, none⟩)] w fun e w' => e = .returned (.bool (opP m n k)) ∧ Ext w w' := by
  have HP := Lib.hid (fun w => pressed_any m k hm hk w)
  unfold opP
  have hz := sh_lt m (k % 6) (k / 6)
  generalize sh m (k % 6) (k / 6) = z at *
  have e64 := andn64s hz hn
  generalize z &&& cmp n = q at *
  skip
  go_enter Try.func149, Try.ntmps149
  go_wp2
  refine wp_calm0 (by kernel_rfl) (by kernel_rfl) ?_; intro hgr; (refine walkQ_step (fun K hK => ?_); go_simp; (try (go_ints; try go_simp)); first | (refine hK _ ?_; clear hK K) | (apply Exists.intro; refine ⟨fun _ => ?_, hK _ ?_⟩; ((go_at_call 97; exact (HP.out _))); clear hK K) | (simp only [↓IntWalk.iteOmega]; (try go_simp); (try (go_ints; try go_simp)); first | (refine hK _ ?_; clear hK K) | (apply Exists.intro; refine ⟨fun _ => ?_, hK _ ?_⟩; ((go_at_call 97; exact (HP.out _))); clear hK K))); (refine walkQ_step (fun K hK => ?_); go_simp; (try (go_ints; try go_simp)); first | (refine hK _ ?_; clear hK K) | (apply Exists.intro; refine ⟨fun _ => ?_, hK _ ?_⟩; ((go_at_call 97; exact (HP.out _))); clear hK K) | (simp only [↓IntWalk.iteOmega]; (try go_simp); (try (go_ints; try go_simp)); first | (refine hK _ ?_; clear hK K) | (apply Exists.intro; refine ⟨fun _ => ?_, hK _ ?_⟩; ((go_at_call 97; exact (HP.out _))); clear hK K))); (refine walkQ_step (fun K hK => ?_); go_simp; (try (go_ints; try go_simp)); first | (refine hK _ ?_; clear hK K) | (apply Exists.intro; refine ⟨fun _ => ?_, hK _ ?_⟩; ((go_at_call 97; exact (HP.out _))); clear hK K) | (simp only [↓IntWalk.iteOmega]; (try go_simp); (try (go_ints; try go_simp)); first | (refine hK _ ?_; clear hK K) | (apply Exists.intro; refine ⟨fun _ => ?_, hK _ ?_⟩; ((go_at_call 97; exact (HP.out _))); clear hK K))); (refine walkQ_step (fun K hK => ?_); go_simp; (try (go_ints; try go_simp)); first | (refine hK _ ?_; clear hK K) | (apply Exists.intro; refine ⟨fun _ => ?_, hK _ ?_⟩; ((go_at_call 97; exact (HP.out _))); clear hK K) | (simp only [↓IntWalk.iteOmega]; (try go_simp); (try (go_ints; try go_simp)); first | (refine hK _ ?_; clear hK K) | (apply Exists.intro; refine ⟨fun _ => ?_, hK _ ?_⟩; ((go_at_call 97; exact (HP.out _))); clear hK K))); (refine walkQ_step (fun K hK => ?_); go_simp; (try (go_ints; try go_simp)); first | (refine hK _ ?_; clear hK K) | (apply Exists.intro; refine ⟨fun _ => ?_, hK _ ?_⟩; ((go_at_call 97; exact (HP.out _))); clear hK K) | (simp only [↓IntWalk.iteOmega]; (try go_simp); (try (go_ints; try go_simp)); first | (refine hK _ ?_; clear hK K) | (apply Exists.intro; refine ⟨fun _ => ?_, hK _ ?_⟩; ((go_at_call 97; exact (HP.out _))); clear hK K))); (refine walkQ_step (fun K hK => ?_); go_simp; (try (go_ints; try go_simp)); first | (refine hK _ ?_; clear hK K) | (apply Exists.intro; refine ⟨fun _ => ?_, hK _ ?_⟩; ((go_at_call 97; exact (HP.out _))); clear hK K) | (simp only [↓IntWalk.iteOmega]; (try go_simp); (try (go_ints; try go_simp)); first | (refine hK _ ?_; clear hK K) | (apply Exists.intro; refine ⟨fun _ => ?_, hK _ ?_⟩; ((go_at_call 97; exact (HP.out _))); clear hK K))); (refine walkQ_step (fun K hK => ?_); go_simp; (try (go_ints; try go_simp)); first | (refine hK _ ?_; clear hK K) | (apply Exists.intro; refine ⟨fun _ => ?_, hK _ ?_⟩; ((go_at_call 97; exact (HP.out _))); clear hK K) | (simp only [↓IntWalk.iteOmega]; (try go_simp); (try (go_ints; try go_simp)); first | (refine hK _ ?_; clear hK K) | (apply Exists.intro; refine ⟨fun _ => ?_, hK _ ?_⟩; ((go_at_call 97; exact (HP.out _))); clear hK K))); refine walkQ_nil ?_; clear hgr; intro w1 hE; have hc2 := hE.cells; have hf2 := hE.frees; have hz2 := hE.size
  replace hE : Ext w w1 := ((Ext.refl w).drew).trans hE
  go_wp2
  go_returns
  exact ⟨ret_bool (by rw [Bool.eq_iff_iff]; simp; try omega), (by (repeat' (first | (with_reducible exact Ext.refl _) | (with_reducible assumption) | (with_reducible refine Ext.alloc ?_ _) | (with_reducible refine Ext.drew ?_) | (with_reducible refine Ext.drewN ?_ _) | (with_reducible refine Ext.setCell ?_ ?_ _) | (with_reducible refine Ext.trans ?_ (by assumption)))) <;> (first | (with_reducible assumption) | omega | (simp; done) | (simp; omega)))⟩
theorem open_n (m n : Nat) (hn : n < 68719476736) (hm : m < 68719476736) (w : World) : Calls Try.prog 107 #[.int .u64 (m : Int), .int .u64 (n : Int)] w fun e w' => ∃ v, e = .returned v ∧ Ext w w' ∧ w'.ownsRow w.heap.size 3 1 v (fl (opP m n) 36).length (ints (fl (opP m n) 36)) := by
  have HW := Lib.hid (fun (x y : Nat) (w : World) (hx : x < w.heap.size) (hy : y < w.heap.size) (h1 : w.cell? ⟨x, 0, none⟩ = some (.int .u64 (m : Int))) (h2 : w.cell? ⟨y, 0, none⟩ = some (.int .u64 (n : Int))) =>
    where_any 149 #[.pointer (some ⟨x, 0, none⟩), .pointer (some ⟨y, 0, none⟩)] (opP m n) w Try.call149 fun k hk w' hE =>
      open1_any m n k hn hm hk x y w' (Nat.lt_of_lt_of_le hx hE.size) (Nat.lt_of_lt_of_le hy hE.size) ((hE.cells _ _ hx).trans h1) ((hE.cells _ _ hy).trans h2))
  have HL := Lib.hid (fun w => list_n (mkN (opP m n) 36) (mk36_lt _) w)
  rw [fl_mk] at HL
  generalize fl (opP m n) 36 = L at *
  generalize mkN (opP m n) 36 = R at *
  go_enter Try.func107, Try.ntmps107
  go_wp2_with (first | (go_at_call 92; refine (HW.out w.heap.size (w.heap.size + 1) _ (by simp; omega) (by simp) (by go_simp) (by go_simp)).mono ?_; rintro e w1 ⟨rfl, hE⟩; have hsz := hE.size; obtain ⟨wa, rfl⟩ : ∃ x, x = w1 := ⟨_, rfl⟩) | (go_at_call 150; refine (HL.out _).mono ?_; rintro e w1 ⟨v, rfl, hE, ho⟩))
  go_returns
  exact ⟨_, rfl, (by (repeat' (first | (with_reducible exact Ext.refl _) | (with_reducible assumption) | (with_reducible refine Ext.alloc ?_ _) | (with_reducible refine Ext.drew ?_) | (with_reducible refine Ext.drewN ?_ _) | (with_reducible refine Ext.setCell ?_ ?_ _) | (with_reducible refine Ext.trans ?_ (by assumption)))) <;> (first | (with_reducible assumption) | omega | (simp; done) | (simp; omega))), own_mono ho (by simp at hsz; omega)⟩
end Go.Proofs.Ytlifhoajamnehaa
