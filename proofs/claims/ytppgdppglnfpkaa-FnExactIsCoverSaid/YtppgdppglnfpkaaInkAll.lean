/- InkAll: contracts of functions, and lemmas, for this seat. Conditions: as each states. -/
import Derived.Test.YtppgdppglnfpkaaInk
import Derived.Test.YtppgdppglnfpkaaRaw
import Derived.Test.YtppgdppglnfpkaaNbr
set_option linter.unusedVariables false
set_option maxRecDepth 100000
set_option maxHeartbeats 1000000
namespace Go.Proofs.Ytppgdppglnfpkaa
open Go Go.RowKit Instr
theorem numbersOf_n (n : Nat) (g : Nat → Int) (hn : n ≤ 1048576) (hg : cellsOk g n) (B : Nat) (v : Value) (w : World) (ho : w.ownsRow B 72 2 v n (Gl (n * 2) g)) :
    Calls Try.prog 79 #[v] w fun e w' => ∃ u, e = .returned (.tuple #[u, .bool true]) ∧ Ext w w' ∧ w'.ownsRow w.heap.size 3 1 u n (ints (nbrs g n)) := by
  obtain ⟨i0, hi, iz0, iz1, iz2⟩ := info_parts info_int
  obtain ⟨ao, cap, rfl, hsh⟩ := own_shape ho
  have HI := Lib.hid ho
  have HK := Lib.hid hg
  clear ho hg
  go_enter Try.func79, Try.ntmps79
  go_wp2
  go_loopw [4, 10] (fun u i wr => ∃ j : Nat, j ≤ n ∧ i = .int .i64 j ∧ Ext w wr ∧ w.heap.size < wr.heap.size ∧ wr.ownsRow w.heap.size 3 1 u j (ints (nbrs g j))) (fun _ i _ => n - (intOf i).toNat)
  case atStart => exact ⟨0, Nat.zero_le _, rfl, (by (repeat' (first | (with_reducible exact Ext.refl _) | (with_reducible assumption) | (with_reducible refine Ext.alloc ?_ _) | (with_reducible refine Ext.drew ?_) | (with_reducible refine Ext.drewN ?_ _) | (with_reducible refine Ext.setCell ?_ ?_ _) | (with_reducible refine Ext.trans ?_ (by assumption)))) <;> (first | (with_reducible assumption) | omega | (simp; done) | (simp; omega))), by simp, own_empty _ 3 1 _ (by simp) (by simp)⟩
  case round =>
    obtain ⟨j, hj, rfl, hx, hz, ho⟩ := hrel
    obtain ⟨wo, rfl⟩ : ∃ wo : World, wo = wr := ⟨_, rfl⟩
    have HO := Lib.hid ho
    clear ho
    by_cases hlt : j < n
    · obtain ⟨b, rfl, _, hb⟩ := hsh (by omega)
      have hc := HK.out j hlt
      obtain ⟨hx6, hy6, e1, e2⟩ : nbr g j % 6 < 6 ∧ nbr g j / 6 < 6 ∧ g (j * 2) = ((nbr g j % 6 : Nat) : Int) ∧ g (j * 2 + 1) = ((nbr g j / 6 : Nat) : Int) := by
        obtain ⟨h1, h2, h3⟩ := nbr_xy hc
        exact ⟨by omega, by omega, h2, h3⟩
      have c1 := ((own_ext HI.out hx).cellAt (j * 2) (by omega)).trans (Gl_get (by omega))
      have c2 := ((own_ext HI.out hx).cellAt (j * 2 + 1) (by omega)).trans (Gl_get (by omega))
      have HC := Lib.hid (fun w => isCell_is (g (j * 2)) (g (j * 2 + 1)) _ hc w)
      rw [e1, e2] at HC
      rw [e1] at c1
      rw [e2] at c2
      have HN := Lib.hid (fun w => number_any (nbr g j % 6) (nbr g j / 6) hx6 hy6 w)
      rw [show nbr g j / 6 * 6 + nbr g j % 6 = nbr g j by omega] at HN
      have HS := Lib.hid (show ints (nbrs g (j + 1)) = ints (nbrs g j) ++ [.int .i64 (nbr g j : Int)] by rw [nbrs_succ, ints_append]; rfl)
      clear hc e1 e2
      generalize nbr g j = k at *
      generalize k % 6 = kx at *
      generalize k / 6 = ky at *
      skip
      go_wp2_with (first | ((go_at_call 93; refine (HC.out _).mono ?_; rintro e w1 ⟨rfl, hE⟩); have hs : wo.heap.size + 1 ≤ w1.heap.size := (by simpa using hE.size); have p0 : w1.cell? ⟨wo.heap.size, 0, none⟩ = some (.int .i64 (kx : Int)) := (hE.cells wo.heap.size 0 (by simp)).trans (by go_simp); have p1 : w1.cell? ⟨wo.heap.size, 1, none⟩ = some (.int .i64 (ky : Int)) := (hE.cells wo.heap.size 1 (by simp)).trans (by go_simp); obtain ⟨wa, rfl⟩ : ∃ x, x = w1 := ⟨_, rfl⟩) | ((go_at_call 96; refine (HN.out _).mono ?_; rintro e w1 ⟨rfl, hE⟩); have hs2 := hE.size; have HO1 := Lib.hid (own_ext HO.out ((by (repeat' (first | (with_reducible exact Ext.refl _) | (with_reducible assumption) | (with_reducible refine Ext.alloc ?_ _) | (with_reducible refine Ext.drew ?_) | (with_reducible refine Ext.drewN ?_ _) | (with_reducible refine Ext.setCell ?_ ?_ _) | (with_reducible refine Ext.trans ?_ (by assumption)))) <;> (first | (with_reducible assumption) | omega | (simp; done) | (simp; omega))) : Ext wo w1))) | (at_builtin; refine wpList_append_own _ rfl _ _ 81 rfl w.heap.size 3 i0 (.int .i64 0) 1 8 Try.underlying81 hi iz0 iz1 iz2 rfl (by decide) _ _ _ rfl (HO1.out.alloc _) ⟨_, 0, none⟩ 1 1 [.int .i64 (k : Int)] rfl rfl one_cell (by simp [Value.oneCell']) (by unfold maxLen; omega) (by omega) (by simp; omega) ?_; intro v1 w2 hown hgrow _))
      have HP := Lib.hid (own_push (hx.trans ((by (repeat' (first | (with_reducible exact Ext.refl _) | (with_reducible assumption) | (with_reducible refine Ext.alloc ?_ _) | (with_reducible refine Ext.drew ?_) | (with_reducible refine Ext.drewN ?_ _) | (with_reducible refine Ext.setCell ?_ ?_ _) | (with_reducible refine Ext.trans ?_ (by assumption)))) <;> (first | (with_reducible assumption) | omega | (simp; done) | (simp; omega))) : Ext wo _)) (Nat.le_refl _) HO1.out hgrow)
      have hs3 := hgrow.size
      refine ⟨⟨j + 1, by omega, by go_num, HP.out.1, by simp at hs3; omega, ?_⟩, by simp [intOf]; omega⟩
      rw [HS.out]
      exact hown
    · obtain rfl : j = n := by omega
      go_wp2
      go_returns
      exact ⟨_, rfl, (by (repeat' (first | (with_reducible exact Ext.refl _) | (with_reducible assumption) | (with_reducible refine Ext.alloc ?_ _) | (with_reducible refine Ext.drew ?_) | (with_reducible refine Ext.drewN ?_ _) | (with_reducible refine Ext.setCell ?_ ?_ _) | (with_reducible refine Ext.trans ?_ (by assumption)))) <;> (first | (with_reducible assumption) | omega | (simp; done) | (simp; omega))), HO.out⟩
theorem numbersOf_bad (n j0 : Nat) (g : Nat → Int) (hn : n ≤ 1048576) (hj0 : j0 < n) (hg : okC (g (j0 * 2)) (g (j0 * 2 + 1)) = false) (B : Nat) (v : Value) (w : World) (ho : w.ownsRow B 72 2 v n (Gl (n * 2) g)) :
    Calls Try.prog 79 #[v] w fun e w' => e = .returned (.tuple #[.slice none 0 0, .bool false]) ∧ Ext w w' := by
  obtain ⟨i0, hi, iz0, iz1, iz2⟩ := info_parts info_int
  obtain ⟨ao, cap, rfl, hsh⟩ := own_shape ho
  have HI := Lib.hid ho
  have HK := Lib.hid hg
  clear ho hg
  go_enter Try.func79, Try.ntmps79
  go_wp2
  go_loopw [4, 10] (fun u i wr => ∃ j : Nat, j ≤ j0 ∧ i = .int .i64 j ∧ Ext w wr ∧ w.heap.size < wr.heap.size ∧ wr.ownsRow w.heap.size 3 1 u j (ints (nbrs g j))) (fun _ i _ => n - (intOf i).toNat)
  case atStart => exact ⟨0, Nat.zero_le _, rfl, (by (repeat' (first | (with_reducible exact Ext.refl _) | (with_reducible assumption) | (with_reducible refine Ext.alloc ?_ _) | (with_reducible refine Ext.drew ?_) | (with_reducible refine Ext.drewN ?_ _) | (with_reducible refine Ext.setCell ?_ ?_ _) | (with_reducible refine Ext.trans ?_ (by assumption)))) <;> (first | (with_reducible assumption) | omega | (simp; done) | (simp; omega))), by simp, own_empty _ 3 1 _ (by simp) (by simp)⟩
  case round =>
    obtain ⟨j, hj, rfl, hx, hz, ho⟩ := hrel
    obtain ⟨wo, rfl⟩ : ∃ wo : World, wo = wr := ⟨_, rfl⟩
    have HO := Lib.hid ho
    clear ho
    have hlt : j < n := by omega
    obtain ⟨b, rfl, _, hb⟩ := hsh (by omega)
    have c1 := ((own_ext HI.out hx).cellAt (j * 2) (by omega)).trans (Gl_get (by omega))
    have c2 := ((own_ext HI.out hx).cellAt (j * 2 + 1) (by omega)).trans (Gl_get (by omega))
    cases hc : okC (g (j * 2)) (g (j * 2 + 1))
    · have HC := Lib.hid (fun w => isCell_is (g (j * 2)) (g (j * 2 + 1)) _ hc w)
      clear hc
      skip
      go_wp2_with (go_at_call 93; refine (HC.out _).mono ?_; rintro e w1 ⟨rfl, hE⟩)
      go_returns
      exact ⟨rfl, (by (repeat' (first | (with_reducible exact Ext.refl _) | (with_reducible assumption) | (with_reducible refine Ext.alloc ?_ _) | (with_reducible refine Ext.drew ?_) | (with_reducible refine Ext.drewN ?_ _) | (with_reducible refine Ext.setCell ?_ ?_ _) | (with_reducible refine Ext.trans ?_ (by assumption)))) <;> (first | (with_reducible assumption) | omega | (simp; done) | (simp; omega)))⟩
    · have hjj : j ≠ j0 := fun e => by subst e; rw [HK.out] at hc; cases hc
      obtain ⟨hx6, hy6, e1, e2⟩ : nbr g j % 6 < 6 ∧ nbr g j / 6 < 6 ∧ g (j * 2) = ((nbr g j % 6 : Nat) : Int) ∧ g (j * 2 + 1) = ((nbr g j / 6 : Nat) : Int) := by
        obtain ⟨h1, h2, h3⟩ := nbr_xy hc
        exact ⟨by omega, by omega, h2, h3⟩
      have HC := Lib.hid (fun w => isCell_is (g (j * 2)) (g (j * 2 + 1)) _ hc w)
      rw [e1, e2] at HC
      rw [e1] at c1
      rw [e2] at c2
      have HN := Lib.hid (fun w => number_any (nbr g j % 6) (nbr g j / 6) hx6 hy6 w)
      rw [show nbr g j / 6 * 6 + nbr g j % 6 = nbr g j by omega] at HN
      have HS := Lib.hid (show ints (nbrs g (j + 1)) = ints (nbrs g j) ++ [.int .i64 (nbr g j : Int)] by rw [nbrs_succ, ints_append]; rfl)
      clear hc e1 e2
      generalize nbr g j = k at *
      generalize k % 6 = kx at *
      generalize k / 6 = ky at *
      skip
      go_wp2_with (first | ((go_at_call 93; refine (HC.out _).mono ?_; rintro e w1 ⟨rfl, hE⟩); have hs : wo.heap.size + 1 ≤ w1.heap.size := (by simpa using hE.size); have p0 : w1.cell? ⟨wo.heap.size, 0, none⟩ = some (.int .i64 (kx : Int)) := (hE.cells wo.heap.size 0 (by simp)).trans (by go_simp); have p1 : w1.cell? ⟨wo.heap.size, 1, none⟩ = some (.int .i64 (ky : Int)) := (hE.cells wo.heap.size 1 (by simp)).trans (by go_simp); obtain ⟨wa, rfl⟩ : ∃ x, x = w1 := ⟨_, rfl⟩) | ((go_at_call 96; refine (HN.out _).mono ?_; rintro e w1 ⟨rfl, hE⟩); have hs2 := hE.size; have HO1 := Lib.hid (own_ext HO.out ((by (repeat' (first | (with_reducible exact Ext.refl _) | (with_reducible assumption) | (with_reducible refine Ext.alloc ?_ _) | (with_reducible refine Ext.drew ?_) | (with_reducible refine Ext.drewN ?_ _) | (with_reducible refine Ext.setCell ?_ ?_ _) | (with_reducible refine Ext.trans ?_ (by assumption)))) <;> (first | (with_reducible assumption) | omega | (simp; done) | (simp; omega))) : Ext wo w1))) | (at_builtin; refine wpList_append_own _ rfl _ _ 81 rfl w.heap.size 3 i0 (.int .i64 0) 1 8 Try.underlying81 hi iz0 iz1 iz2 rfl (by decide) _ _ _ rfl (HO1.out.alloc _) ⟨_, 0, none⟩ 1 1 [.int .i64 (k : Int)] rfl rfl one_cell (by simp [Value.oneCell']) (by unfold maxLen; omega) (by omega) (by simp; omega) ?_; intro v1 w2 hown hgrow _))
      have HP := Lib.hid (own_push (hx.trans ((by (repeat' (first | (with_reducible exact Ext.refl _) | (with_reducible assumption) | (with_reducible refine Ext.alloc ?_ _) | (with_reducible refine Ext.drew ?_) | (with_reducible refine Ext.drewN ?_ _) | (with_reducible refine Ext.setCell ?_ ?_ _) | (with_reducible refine Ext.trans ?_ (by assumption)))) <;> (first | (with_reducible assumption) | omega | (simp; done) | (simp; omega))) : Ext wo _)) (Nat.le_refl _) HO1.out hgrow)
      have hs3 := hgrow.size
      refine ⟨⟨j + 1, by omega, by go_num, HP.out.1, by simp at hs3; omega, ?_⟩, by simp [intOf]; omega⟩
      rw [HS.out]
      exact hown
end Go.Proofs.Ytppgdppglnfpkaa
