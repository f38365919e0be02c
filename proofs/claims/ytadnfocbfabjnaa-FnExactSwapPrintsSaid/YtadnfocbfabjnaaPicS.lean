/- PicS: contracts of functions, and lemmas, for this seat. Conditions: as each states. -/
import Derived.Test.YtadnfocbfabjnaaPicC
import Derived.Test.YtadnfocbfabjnaaSpecA
import Derived.Test.YtadnfocbfabjnaaInk
import Derived.Test.YtadnfocbfabjnaaNbr
import Derived.Test.YtadnfocbfabjnaaRaw0
set_option linter.unusedVariables false
set_option maxRecDepth 100000
set_option maxHeartbeats 4000000
namespace Go.Proofs.Ytadnfocbfabjnaa
open Go Go.RowKit Instr
theorem range_ints (j : Nat) : ints (List.range (j + 1)) = ints (List.range j) ++ [.int .i64 (j : Int)] := by rw [List.range_succ, ints_append]; rfl
theorem l8Plain_n (n : Nat) (hn : n ≤ 1000) (w : World) : Calls Try.prog 131 #[.int .i64 (n : Int)] w fun e w' => ∃ u, e = .returned u ∧ Ext w w' ∧ w'.ownsRow w.heap.size 3 1 u n (ints (List.range n)) := by
  obtain ⟨i0, hi, iz0, iz1, iz2⟩ := info_parts info_int
  go_enter Try.func131, Try.ntmps131
  go_wp2
  go_loopw [3, 4] (fun v i wr => ∃ j : Nat, j ≤ n ∧ i = .int .i64 j ∧ Ext w wr ∧ w.heap.size < wr.heap.size ∧ wr.ownsRow w.heap.size 3 1 v j (ints (List.range j))) (fun _ i _ => n - (intOf i).toNat)
  case atStart => exact ⟨0, Nat.zero_le _, rfl, (by (repeat' (first | (with_reducible exact Ext.refl _) | (with_reducible assumption) | (with_reducible refine Ext.alloc ?_ _) | (with_reducible refine Ext.drew ?_) | (with_reducible refine Ext.drewN ?_ _) | (with_reducible refine Ext.setCell ?_ ?_ _) | (with_reducible refine Ext.trans ?_ (by assumption)))) <;> (first | (with_reducible assumption) | omega | (simp; done) | (simp; omega))), by simp, own_empty _ 3 1 _ (by simp) (by simp)⟩
  case round =>
    obtain ⟨j, hj, rfl, hx, hz, ho⟩ := hrel
    obtain ⟨wo, rfl⟩ : ∃ wo : World, wo = wr := ⟨_, rfl⟩
    have HO := Lib.hid ho
    clear ho
    by_cases hlt : j < n
    · have e := Lib.hid (range_ints j)
      go_wp2_with (at_builtin; refine wpList_append_own _ rfl _ _ 44 rfl w.heap.size 3 i0 (.int .i64 0) 1 8 Try.underlying44 hi iz0 iz1 iz2 rfl (by decide) _ _ _ rfl (HO.out.alloc _) ⟨_, 0, none⟩ 1 1 [.int .i64 (j : Int)] rfl rfl one_cell (by simp [Value.oneCell']) (by unfold maxLen; omega) (by omega) (by simp; omega) ?_; intro v1 w2 hown hgrow _)
      have HP := Lib.hid (own_push hx (Nat.le_refl _) HO.out hgrow)
      have hs2 := hgrow.size
      refine ⟨⟨j + 1, by omega, by go_num, HP.out.1, by simp at hs2; omega, ?_⟩, by simp [intOf]; omega⟩
      rw [e.out]
      exact hown
    · obtain rfl : j = n := by omega
      go_wp2
      go_returns
      exact ⟨_, rfl, (by (repeat' (first | (with_reducible exact Ext.refl _) | (with_reducible assumption) | (with_reducible refine Ext.alloc ?_ _) | (with_reducible refine Ext.drew ?_) | (with_reducible refine Ext.drewN ?_ _) | (with_reducible refine Ext.setCell ?_ ?_ _) | (with_reducible refine Ext.trans ?_ (by assumption)))) <;> (first | (with_reducible assumption) | omega | (simp; done) | (simp; omega))), HO.out⟩
theorem l8List_n (n : Nat) (g : Nat → Int) (hn : n ≤ 6) (hg : ∀ j, j < n → prB (rowG g j) = true) (B : Nat) (v : Value) (w : World) (ho : w.ownsRow B 122 9 v n (Gl (n * 9) g)) :
    Calls Try.prog 129 #[v] w fun e w' => e = .returned (.bool true) ∧ Ext w w' := by
  obtain ⟨ao, cap, rfl, hsh⟩ := own_shape ho
  have HI := Lib.hid ho
  have HK := Lib.hid hg
  clear ho hg
  go_enter Try.func129, Try.ntmps129
  go_wp2
  go_loopw [3] (fun i wr => ∃ j : Nat, j ≤ n ∧ i = .int .i64 j ∧ Ext w wr) (fun i _ => n - (intOf i).toNat)
  case atStart => exact ⟨0, Nat.zero_le _, rfl, (by (repeat' (first | (with_reducible exact Ext.refl _) | (with_reducible assumption) | (with_reducible refine Ext.alloc ?_ _) | (with_reducible refine Ext.drew ?_) | (with_reducible refine Ext.drewN ?_ _) | (with_reducible refine Ext.setCell ?_ ?_ _) | (with_reducible refine Ext.trans ?_ (by assumption)))) <;> (first | (with_reducible assumption) | omega | (simp; done) | (simp; omega)))⟩
  case round =>
    obtain ⟨j, hj, rfl, hx⟩ := hrel
    obtain ⟨wo, rfl⟩ : ∃ wo : World, wo = wr := ⟨_, rfl⟩
    by_cases hlt : j < n
    · obtain ⟨b, rfl, _, hb⟩ := hsh (by omega)
      obtain ⟨r, hr⟩ : ∃ r : Nat → Int, r = rowG g j := ⟨_, rfl⟩
      have hok := HK.out j hlt
      rw [← hr] at hok
      have HIP := Lib.hid (fun w => l8Print_any r w)
      rw [hok] at HIP
      have c0 : wo.cell? ⟨b, j * 9 + 0, none⟩ = some (.int .i64 (r 0)) := by rw [hr]; exact ((own_ext HI.out hx).cellAt (j * 9 + 0) (by omega)).trans (Gl_get (by omega))
      have c1 : wo.cell? ⟨b, j * 9 + 1, none⟩ = some (.int .i64 (r 1)) := by rw [hr]; exact ((own_ext HI.out hx).cellAt (j * 9 + 1) (by omega)).trans (Gl_get (by omega))
      have c2 : wo.cell? ⟨b, j * 9 + 2, none⟩ = some (.int .i64 (r 2)) := by rw [hr]; exact ((own_ext HI.out hx).cellAt (j * 9 + 2) (by omega)).trans (Gl_get (by omega))
      have c3 : wo.cell? ⟨b, j * 9 + 3, none⟩ = some (.int .i64 (r 3)) := by rw [hr]; exact ((own_ext HI.out hx).cellAt (j * 9 + 3) (by omega)).trans (Gl_get (by omega))
      have c4 : wo.cell? ⟨b, j * 9 + 4, none⟩ = some (.int .i64 (r 4)) := by rw [hr]; exact ((own_ext HI.out hx).cellAt (j * 9 + 4) (by omega)).trans (Gl_get (by omega))
      have c5 : wo.cell? ⟨b, j * 9 + 5, none⟩ = some (.int .i64 (r 5)) := by rw [hr]; exact ((own_ext HI.out hx).cellAt (j * 9 + 5) (by omega)).trans (Gl_get (by omega))
      have c6 : wo.cell? ⟨b, j * 9 + 6, none⟩ = some (.int .i64 (r 6)) := by rw [hr]; exact ((own_ext HI.out hx).cellAt (j * 9 + 6) (by omega)).trans (Gl_get (by omega))
      have c7 : wo.cell? ⟨b, j * 9 + 7, none⟩ = some (.int .i64 (r 7)) := by rw [hr]; exact ((own_ext HI.out hx).cellAt (j * 9 + 7) (by omega)).trans (Gl_get (by omega))
      have c8 : wo.cell? ⟨b, j * 9 + 8, none⟩ = some (.int .i64 (r 8)) := by rw [hr]; exact ((own_ext HI.out hx).cellAt (j * 9 + 8) (by omega)).trans (Gl_get (by omega))
      rw [Nat.add_zero] at c0
      clear hok hr
      skip
      go_wp2_with (go_at_call 198; refine (HIP.out _).mono ?_; rintro e w1 ⟨rfl, hE⟩)
      (first | exact ⟨⟨j + 1, by omega, by go_num, (by (repeat' (first | (with_reducible exact Ext.refl _) | (with_reducible assumption) | (with_reducible refine Ext.alloc ?_ _) | (with_reducible refine Ext.drew ?_) | (with_reducible refine Ext.drewN ?_ _) | (with_reducible refine Ext.setCell ?_ ?_ _) | (with_reducible refine Ext.trans ?_ (by assumption)))) <;> (first | (with_reducible assumption) | omega | (simp; done) | (simp; omega)))⟩, by simp [intOf]; omega⟩ | (refine ⟨?_, by simp [intOf]; omega⟩; (repeat apply Exists.intro); exact ⟨⟨j + 1, by omega, by go_num, (by (repeat' (first | (with_reducible exact Ext.refl _) | (with_reducible assumption) | (with_reducible refine Ext.alloc ?_ _) | (with_reducible refine Ext.drew ?_) | (with_reducible refine Ext.drewN ?_ _) | (with_reducible refine Ext.setCell ?_ ?_ _) | (with_reducible refine Ext.trans ?_ (by assumption)))) <;> (first | (with_reducible assumption) | omega | (simp; done) | (simp; omega)))⟩, rfl⟩))
    · obtain rfl : j = n := by omega
      go_wp2
      go_returns
      exact ⟨ret_bool (by simp; omega), (by (repeat' (first | (with_reducible exact Ext.refl _) | (with_reducible assumption) | (with_reducible refine Ext.alloc ?_ _) | (with_reducible refine Ext.drew ?_) | (with_reducible refine Ext.drewN ?_ _) | (with_reducible refine Ext.setCell ?_ ?_ _) | (with_reducible refine Ext.trans ?_ (by assumption)))) <;> (first | (with_reducible assumption) | omega | (simp; done) | (simp; omega)))⟩
/-- too many, or a bad one -/
theorem l8List_bad (n j0 : Nat) (g : Nat → Int) (hn : n ≤ 1048576) (hj0 : j0 < n) (hg : ∀ j, j < j0 → prB (rowG g j) = true) (hb0 : 6 < j0 ∨ prB (rowG g j0) = false ∨ 6 < n) (B : Nat) (v : Value) (w : World) (ho : w.ownsRow B 122 9 v n (Gl (n * 9) g)) :
    Calls Try.prog 129 #[v] w fun e w' => e = .returned (.bool false) ∧ Ext w w' := by
  obtain ⟨ao, cap, rfl, hsh⟩ := own_shape ho
  have HI := Lib.hid ho
  have HK := Lib.hid hg
  have HB0 := Lib.hid hb0
  clear ho hg hb0
  go_enter Try.func129, Try.ntmps129
  go_wp2
  go_loopw [3] (fun i wr => ∃ j : Nat, j ≤ n ∧ j ≤ 7 ∧ i = .int .i64 j ∧ Ext w wr ∧ (j ≤ j0 ∨ 6 < n)) (fun i _ => n - (intOf i).toNat)
  case atStart => exact ⟨0, Nat.zero_le _, by omega, rfl, (by (repeat' (first | (with_reducible exact Ext.refl _) | (with_reducible assumption) | (with_reducible refine Ext.alloc ?_ _) | (with_reducible refine Ext.drew ?_) | (with_reducible refine Ext.drewN ?_ _) | (with_reducible refine Ext.setCell ?_ ?_ _) | (with_reducible refine Ext.trans ?_ (by assumption)))) <;> (first | (with_reducible assumption) | omega | (simp; done) | (simp; omega))), .inl (Nat.zero_le _)⟩
  case round =>
    obtain ⟨j, hj, hj7, rfl, hx, hjj⟩ := hrel
    obtain ⟨wo, rfl⟩ : ∃ wo : World, wo = wr := ⟨_, rfl⟩
    by_cases hlt : j < n
    · by_cases h6 : j ≤ 6
      · obtain ⟨b, rfl, _, hb⟩ := hsh (by omega)
        obtain ⟨r, hr⟩ : ∃ r : Nat → Int, r = rowG g j := ⟨_, rfl⟩
        have HIP := Lib.hid (fun w => l8Print_any r w)
        have c0 : wo.cell? ⟨b, j * 9 + 0, none⟩ = some (.int .i64 (r 0)) := by rw [hr]; exact ((own_ext HI.out hx).cellAt (j * 9 + 0) (by omega)).trans (Gl_get (by omega))
        have c1 : wo.cell? ⟨b, j * 9 + 1, none⟩ = some (.int .i64 (r 1)) := by rw [hr]; exact ((own_ext HI.out hx).cellAt (j * 9 + 1) (by omega)).trans (Gl_get (by omega))
        have c2 : wo.cell? ⟨b, j * 9 + 2, none⟩ = some (.int .i64 (r 2)) := by rw [hr]; exact ((own_ext HI.out hx).cellAt (j * 9 + 2) (by omega)).trans (Gl_get (by omega))
        have c3 : wo.cell? ⟨b, j * 9 + 3, none⟩ = some (.int .i64 (r 3)) := by rw [hr]; exact ((own_ext HI.out hx).cellAt (j * 9 + 3) (by omega)).trans (Gl_get (by omega))
        have c4 : wo.cell? ⟨b, j * 9 + 4, none⟩ = some (.int .i64 (r 4)) := by rw [hr]; exact ((own_ext HI.out hx).cellAt (j * 9 + 4) (by omega)).trans (Gl_get (by omega))
        have c5 : wo.cell? ⟨b, j * 9 + 5, none⟩ = some (.int .i64 (r 5)) := by rw [hr]; exact ((own_ext HI.out hx).cellAt (j * 9 + 5) (by omega)).trans (Gl_get (by omega))
        have c6 : wo.cell? ⟨b, j * 9 + 6, none⟩ = some (.int .i64 (r 6)) := by rw [hr]; exact ((own_ext HI.out hx).cellAt (j * 9 + 6) (by omega)).trans (Gl_get (by omega))
        have c7 : wo.cell? ⟨b, j * 9 + 7, none⟩ = some (.int .i64 (r 7)) := by rw [hr]; exact ((own_ext HI.out hx).cellAt (j * 9 + 7) (by omega)).trans (Gl_get (by omega))
        have c8 : wo.cell? ⟨b, j * 9 + 8, none⟩ = some (.int .i64 (r 8)) := by rw [hr]; exact ((own_ext HI.out hx).cellAt (j * 9 + 8) (by omega)).trans (Gl_get (by omega))
        rw [Nat.add_zero] at c0
        have hnext : prB (rowG g j) = true → (j + 1 ≤ j0 ∨ 6 < n) := fun h => by
          rcases hjj with h1 | h1
          · rcases Nat.lt_or_ge j j0 with h2 | h2
            · exact .inl (by omega)
            · obtain rfl : j = j0 := by omega
              rcases HB0.out with h3 | h3 | h3
              · omega
              · rw [h] at h3; cases h3
              · exact .inr h3
          · exact .inr h1
        have HNX := Lib.hid hnext
        clear hnext hjj
        cases hok : prB r
        · rw [hok] at HIP
          clear hok hr
          skip
          go_wp2_with (go_at_call 198; refine (HIP.out _).mono ?_; rintro e w1 ⟨rfl, hE⟩)
          go_returns
          exact ⟨rfl, (by (repeat' (first | (with_reducible exact Ext.refl _) | (with_reducible assumption) | (with_reducible refine Ext.alloc ?_ _) | (with_reducible refine Ext.drew ?_) | (with_reducible refine Ext.drewN ?_ _) | (with_reducible refine Ext.setCell ?_ ?_ _) | (with_reducible refine Ext.trans ?_ (by assumption)))) <;> (first | (with_reducible assumption) | omega | (simp; done) | (simp; omega)))⟩
        · rw [hok] at HIP
          have hfin := HNX.out (by rw [← hr]; exact hok)
          clear hok hr HNX
          skip
          have HF := Lib.hid hfin
          clear hfin
          go_wp2_with (go_at_call 198; refine (HIP.out _).mono ?_; rintro e w1 ⟨rfl, hE⟩)
          (first | exact ⟨⟨j + 1, by omega, by omega, by go_num, (by (repeat' (first | (with_reducible exact Ext.refl _) | (with_reducible assumption) | (with_reducible refine Ext.alloc ?_ _) | (with_reducible refine Ext.drew ?_) | (with_reducible refine Ext.drewN ?_ _) | (with_reducible refine Ext.setCell ?_ ?_ _) | (with_reducible refine Ext.trans ?_ (by assumption)))) <;> (first | (with_reducible assumption) | omega | (simp; done) | (simp; omega))), HF.out⟩, by simp [intOf]; omega⟩ | (refine ⟨?_, by simp [intOf]; omega⟩; (repeat apply Exists.intro); exact ⟨⟨j + 1, by omega, by omega, by go_num, (by (repeat' (first | (with_reducible exact Ext.refl _) | (with_reducible assumption) | (with_reducible refine Ext.alloc ?_ _) | (with_reducible refine Ext.drew ?_) | (with_reducible refine Ext.drewN ?_ _) | (with_reducible refine Ext.setCell ?_ ?_ _) | (with_reducible refine Ext.trans ?_ (by assumption)))) <;> (first | (with_reducible assumption) | omega | (simp; done) | (simp; omega))), HF.out⟩, rfl⟩))
      · obtain rfl : j = 7 := by omega
        have hn6 : 6 < n := by omega
        clear hjj
        go_wp2
        go_returns
        exact ⟨ret_bool (by simp; omega), (by (repeat' (first | (with_reducible exact Ext.refl _) | (with_reducible assumption) | (with_reducible refine Ext.alloc ?_ _) | (with_reducible refine Ext.drew ?_) | (with_reducible refine Ext.drewN ?_ _) | (with_reducible refine Ext.setCell ?_ ?_ _) | (with_reducible refine Ext.trans ?_ (by assumption)))) <;> (first | (with_reducible assumption) | omega | (simp; done) | (simp; omega)))⟩
    · obtain rfl : j = n := by omega
      have hn6 : 6 < j := by omega
      clear hjj
      go_wp2
      go_returns
      exact ⟨ret_bool (by simp; omega), (by (repeat' (first | (with_reducible exact Ext.refl _) | (with_reducible assumption) | (with_reducible refine Ext.alloc ?_ _) | (with_reducible refine Ext.drew ?_) | (with_reducible refine Ext.drewN ?_ _) | (with_reducible refine Ext.setCell ?_ ?_ _) | (with_reducible refine Ext.trans ?_ (by assumption)))) <;> (first | (with_reducible assumption) | omega | (simp; done) | (simp; omega)))⟩
theorem l8Cells_n (r : Nat → Int) (n x y : Nat) (hv : ∀ k, k < 6 → r (k + 1) = rw n k) (h7 : r 7 = (x : Int)) (h8 : r 8 = (y : Int)) (hx : x < 6) (hy : y < 6) (w : World) :
    Calls Try.prog 229 #[(.agg #[.int .i64 (r 0), .int .i64 (r 1), .int .i64 (r 2), .int .i64 (r 3), .int .i64 (r 4), .int .i64 (r 5), .int .i64 (r 6), .int .i64 (r 7), .int .i64 (r 8)])] w fun e w' => e = .returned (.agg #[.int .i64 (rw (sh n x y) 0), .int .i64 (rw (sh n x y) 1), .int .i64 (rw (sh n x y) 2), .int .i64 (rw (sh n x y) 3), .int .i64 (rw (sh n x y) 4), .int .i64 (rw (sh n x y) 5)]) ∧ Ext w w' := by
  have HC := Lib.hid (fun w => l2At_n n x y hx hy w)
  have e1 := hv 0 (by omega)
  have e2 := hv 1 (by omega)
  have e3 := hv 2 (by omega)
  have e4 := hv 3 (by omega)
  have e5 := hv 4 (by omega)
  have e6 := hv 5 (by omega)
  rw [← e1, ← e2, ← e3, ← e4, ← e5, ← e6, ← h7, ← h8] at HC
  clear e1 e2 e3 e4 e5 e6 h7 h8 hv
  generalize sh n x y = z at *
  skip
  go_enter Try.func229, Try.ntmps229
  go_wp2_with (go_at_call 207; refine (HC.out _).mono ?_; rintro e w1 ⟨rfl, hE⟩; replace HR := Lib.hid ((show Arr _ (w.heap.size + 1) (fun _ => 0) by first | exact HR.out | exact Arr.new _ (fun _ => 0) _ (by first | rfl | (simp; done) | (simp; omega))).ext hE (by first | exact lR | (simp; done) | (simp; omega))); replace lR : w.heap.size + 1 < w1.heap.size := Nat.lt_of_lt_of_le (by first | exact lR | (simp; done) | (simp; omega)) hE.size; (try clear d0 d1 d2 d3 d4 d5 f0 f1 f2 f3 f4 f5); obtain ⟨⟨d0, d1, d2, d3, d4, d5⟩, f0, f1, f2, f3, f4, f5⟩ := HR.out.all; replace k0_0 : w1.cell? ⟨w.heap.size, 0, none⟩ = some (.int .i64 (r 0)) := (hE.cells _ _ (by first | exact l0 | (simp; done) | (simp; omega))).trans (by first | exact k0_0 | (go_simp; done)); replace k0_1 : w1.cell? ⟨w.heap.size, 1, none⟩ = some (.int .i64 (r 1)) := (hE.cells _ _ (by first | exact l0 | (simp; done) | (simp; omega))).trans (by first | exact k0_1 | (go_simp; done)); replace k0_2 : w1.cell? ⟨w.heap.size, 2, none⟩ = some (.int .i64 (r 2)) := (hE.cells _ _ (by first | exact l0 | (simp; done) | (simp; omega))).trans (by first | exact k0_2 | (go_simp; done)); replace k0_3 : w1.cell? ⟨w.heap.size, 3, none⟩ = some (.int .i64 (r 3)) := (hE.cells _ _ (by first | exact l0 | (simp; done) | (simp; omega))).trans (by first | exact k0_3 | (go_simp; done)); replace k0_4 : w1.cell? ⟨w.heap.size, 4, none⟩ = some (.int .i64 (r 4)) := (hE.cells _ _ (by first | exact l0 | (simp; done) | (simp; omega))).trans (by first | exact k0_4 | (go_simp; done)); replace k0_5 : w1.cell? ⟨w.heap.size, 5, none⟩ = some (.int .i64 (r 5)) := (hE.cells _ _ (by first | exact l0 | (simp; done) | (simp; omega))).trans (by first | exact k0_5 | (go_simp; done)); replace k0_6 : w1.cell? ⟨w.heap.size, 6, none⟩ = some (.int .i64 (r 6)) := (hE.cells _ _ (by first | exact l0 | (simp; done) | (simp; omega))).trans (by first | exact k0_6 | (go_simp; done)); replace k0_7 : w1.cell? ⟨w.heap.size, 7, none⟩ = some (.int .i64 (r 7)) := (hE.cells _ _ (by first | exact l0 | (simp; done) | (simp; omega))).trans (by first | exact k0_7 | (go_simp; done)); replace k0_8 : w1.cell? ⟨w.heap.size, 8, none⟩ = some (.int .i64 (r 8)) := (hE.cells _ _ (by first | exact l0 | (simp; done) | (simp; omega))).trans (by first | exact k0_8 | (go_simp; done)); replace l0 : w.heap.size < w1.heap.size := Nat.lt_of_lt_of_le (by first | exact l0 | (simp; done) | (simp; omega)) hE.size)
  exact bodyPost_ret (ret_cell rfl rfl (load_sheet (HR.out.six (rw z)))) rfl ⟨rfl, (by (repeat' (first | (with_reducible exact Ext.refl _) | (with_reducible assumption) | (with_reducible refine Ext.alloc ?_ _) | (with_reducible refine Ext.drew ?_) | (with_reducible refine Ext.drewN ?_ _) | (with_reducible refine Ext.setCell ?_ ?_ _) | (with_reducible refine Ext.trans ?_ (by assumption)))) <;> (first | (with_reducible assumption) | omega | (simp; done) | (simp; omega)))⟩
theorem arr_off0 {S : Nat → Prop} {w w' : World} {b : Nat} {g : Nat → Int} (h : Arr w b g) (hx : Off S w w') (hb : b < w.heap.size) (hs : ¬ S b) : Arr w' b g := fun j hj =>
  ⟨(hx.cell hb hs j).trans (h j hj).1, (World.frozen?_of_block (a := ⟨b, j, none⟩) (hx.block b hb hs)).trans (h j hj).2⟩
theorem l8Made_n (p r : Nat → Int) (z : Nat) (hC : ∀ w, Calls Try.prog 229 #[(.agg #[.int .i64 (r 0), .int .i64 (r 1), .int .i64 (r 2), .int .i64 (r 3), .int .i64 (r 4), .int .i64 (r 5), .int .i64 (r 6), .int .i64 (r 7), .int .i64 (r 8)])] w fun e w' => e = .returned (.agg #[.int .i64 (rw z 0), .int .i64 (rw z 1), .int .i64 (rw z 2), .int .i64 (rw z 3), .int .i64 (rw z 4), .int .i64 (rw z 5)]) ∧ Ext w w') (w : World) :
    Calls Try.prog 199 #[.agg (av 36 p), (.agg #[.int .i64 (r 0), .int .i64 (r 1), .int .i64 (r 2), .int .i64 (r 3), .int .i64 (r 4), .int .i64 (r 5), .int .i64 (r 6), .int .i64 (r 7), .int .i64 (r 8)])] w fun e w' => e = .returned (.agg (av 36 (lay1 p (z, r 0)))) ∧ Ext w w' := by
  have HC := Lib.hid hC
  clear hC
  skip
  skip
  go_enter Try.func199, Try.ntmps199
  go_wp2_with (first | (refine wpList_alloc_av rfl (makesIP rfl) ?_; (try go_simp)) | ((go_at_call 229; refine (HC.out _).mono ?_; rintro e w1 ⟨rfl, hE⟩; replace k0_0 : w1.cell? ⟨w.heap.size + 1, 0, none⟩ = some (.int .i64 (r 0)) := (hE.cells _ _ (by first | exact l0 | (simp; done) | (simp; omega))).trans (by first | exact k0_0 | (go_simp; done)); replace k0_1 : w1.cell? ⟨w.heap.size + 1, 1, none⟩ = some (.int .i64 (r 1)) := (hE.cells _ _ (by first | exact l0 | (simp; done) | (simp; omega))).trans (by first | exact k0_1 | (go_simp; done)); replace k0_2 : w1.cell? ⟨w.heap.size + 1, 2, none⟩ = some (.int .i64 (r 2)) := (hE.cells _ _ (by first | exact l0 | (simp; done) | (simp; omega))).trans (by first | exact k0_2 | (go_simp; done)); replace k0_3 : w1.cell? ⟨w.heap.size + 1, 3, none⟩ = some (.int .i64 (r 3)) := (hE.cells _ _ (by first | exact l0 | (simp; done) | (simp; omega))).trans (by first | exact k0_3 | (go_simp; done)); replace k0_4 : w1.cell? ⟨w.heap.size + 1, 4, none⟩ = some (.int .i64 (r 4)) := (hE.cells _ _ (by first | exact l0 | (simp; done) | (simp; omega))).trans (by first | exact k0_4 | (go_simp; done)); replace k0_5 : w1.cell? ⟨w.heap.size + 1, 5, none⟩ = some (.int .i64 (r 5)) := (hE.cells _ _ (by first | exact l0 | (simp; done) | (simp; omega))).trans (by first | exact k0_5 | (go_simp; done)); replace k0_6 : w1.cell? ⟨w.heap.size + 1, 6, none⟩ = some (.int .i64 (r 6)) := (hE.cells _ _ (by first | exact l0 | (simp; done) | (simp; omega))).trans (by first | exact k0_6 | (go_simp; done)); replace k0_7 : w1.cell? ⟨w.heap.size + 1, 7, none⟩ = some (.int .i64 (r 7)) := (hE.cells _ _ (by first | exact l0 | (simp; done) | (simp; omega))).trans (by first | exact k0_7 | (go_simp; done)); replace k0_8 : w1.cell? ⟨w.heap.size + 1, 8, none⟩ = some (.int .i64 (r 8)) := (hE.cells _ _ (by first | exact l0 | (simp; done) | (simp; omega))).trans (by first | exact k0_8 | (go_simp; done)); replace l0 : w.heap.size + 1 < w1.heap.size := Nat.lt_of_lt_of_le (by first | exact l0 | (simp; done) | (simp; omega)) hE.size); have hE0 := hE; obtain ⟨wa, rfl⟩ : ∃ x, x = w1 := ⟨_, rfl⟩))
  have HPA := Lib.hid (((Big.new w 57 36 p rfl).ext (((Ext.refl _).alloc _).alloc _)).ext hE0)
  have HRA := Lib.hid ((Big.new _ 57 36 (fun _ => 0) (b := w.heap.size + 2) (by simp)).ext hE0)
  have hxa : Ext w wa := ((((Ext.refl w).alloc _).alloc _).alloc _).trans hE0
  have hsa := hE0.size
  simp at hsa
  obtain ⟨wb, hwb⟩ : ∃ x, x = wa.alloc (.cells #[.int .i64 (rw z 0), .int .i64 (rw z 1), .int .i64 (rw z 2), .int .i64 (rw z 3), .int .i64 (rw z 4), .int .i64 (rw z 5)] 26) := ⟨_, rfl⟩
  have hxb : Ext wa wb := by rw [hwb]; exact (Ext.refl _).alloc _
  have HSB := Lib.hid (show Arr wb wa.heap.size (rw z) by rw [hwb]; exact Arr.new wa (rw z) _ rfl)
  have hsb : wa.heap.size < wb.heap.size := by rw [hwb]; simp
  rw [← hwb]
  have HPB := Lib.hid (HPA.out.ext hxb)
  have HRB := Lib.hid (HRA.out.ext hxb)
  have HXB := Lib.hid (hxa.trans hxb)
  have k0 : wb.cell? ⟨w.heap.size + 1, 0, none⟩ = some (.int .i64 (r 0)) := (hxb.cells _ _ (by omega)).trans k0_0
  clear hE0 HPA HRA hxa hwb hxb k0_0 k0_1 k0_2 k0_3 k0_4 k0_5 k0_6 k0_7 k0_8 l0
  try clear hE
  go_wp2
  go_loopw [6] (fun i wr => ∃ y : Nat, y ≤ 6 ∧ i = .int .i64 y ∧ Off (fun k => k = w.heap.size) wb wr ∧ Big wr w.heap.size 57 36 (madeTo p (z, r 0) (y * 6))) (fun i _ => 6 - (intOf i).toNat)
  case atStart => exact ⟨0, Nat.zero_le _, rfl, Off.refl _ _, HPB.out.congr fun i _ => (madeTo_0 _ _ i).symm⟩
  case round =>
    clear HPB
    obtain ⟨y, hy, rfl, ho, hp⟩ := hrel
    obtain ⟨wo, rfl⟩ : ∃ wo : World, wo = wr := ⟨_, rfl⟩
    have HO := Lib.hid ho
    have HP := Lib.hid hp
    clear ho hp
    by_cases hlt : y < 6
    · have hd : decide ((y : Int) < 6) = true := decide_eq_true (by omega)
      go_wp2
      go_loopw [7] (fun i wr => ∃ x : Nat, x ≤ 6 ∧ i = .int .i64 x ∧ Off (fun k => k = w.heap.size) wb wr ∧ Big wr w.heap.size 57 36 (madeTo p (z, r 0) (y * 6 + x))) (fun i _ => 6 - (intOf i).toNat)
      case atStart => exact ⟨0, Nat.zero_le _, rfl, HO.out, HP.out⟩
      case round =>
        clear HO HP
        obtain ⟨x, hx, rfl, ho, hp⟩ := hrel
        obtain ⟨wi, rfl⟩ : ∃ wi : World, wi = wr := ⟨_, rfl⟩
        have HO := Lib.hid ho
        have HP := Lib.hid hp
        clear ho hp
        have hsi := HO.out.size
        by_cases hlx : x < 6
        · have HS := Lib.hid (arr_off0 HSB.out HO.out hsb (by omega))
          obtain ⟨⟨s0, s1, s2, s3, s4, s5⟩, -⟩ := HS.out.all
          have HG := Lib.hid (fun w => l2Get_n z x y hlx hlt w)
          rw [show 6 * y + x = y * 6 + x by omega] at HG
          cases hb : z.testBit (y * 6 + x)
          · have HM := Lib.hid (fun i => madeTo_miss p (z, r 0) (y * 6 + x) i hb)
            rw [hb] at HG
            clear hb
            skip
            go_wp2_with (go_at_call 230; refine (HG.out _).mono ?_; rintro e w1 ⟨rfl, hE⟩)
            (first | exact ⟨⟨x + 1, by omega, by go_num, HO.out.trans (hE.off _), (HP.out.ext hE).congr fun i _ => HM.out i⟩, by simp [intOf]; omega⟩ | (refine ⟨?_, by simp [intOf]; omega⟩; (repeat apply Exists.intro); exact ⟨⟨x + 1, by omega, by go_num, HO.out.trans (hE.off _), (HP.out.ext hE).congr fun i _ => HM.out i⟩, rfl⟩))
          · have HM := Lib.hid (fun i => madeTo_hit p (z, r 0) (y * 6 + x) i hb)
            rw [hb] at HG
            clear hb
            have k0i := (HO.out.cell (b := w.heap.size + 1) (by omega) (by omega) 0).trans k0
            skip
            go_wp2_with ((go_at_call 230; refine (HG.out _).mono ?_; rintro e w1 ⟨rfl, hE⟩); have HO1 := Lib.hid (HO.out.trans (hE.off (fun k => k = w.heap.size))); have HP1 := Lib.hid (HP.out.ext hE); have k1 := (hE.cells (w.heap.size + 1) 0 (by omega)).trans k0i; have hse := hE.size; clear hE s0 s1 s2 s3 s4 s5 k0i; obtain ⟨wq, rfl⟩ : ∃ x, x = w1 := ⟨_, rfl⟩)
            have zq : w.heap.size + 1 < wq.heap.size := by omega
            refine wp_calm 7 0 (fun _ => (#[], 0)) (by kernel_rfl) (by kernel_rfl) ?_; simp only [List.take_succ_cons, List.take_zero, List.drop_succ_cons, List.drop_zero]; intro hgr; (refine walkQ_step (fun K hK => ?_); go_simp; (try (go_ints; try go_simp)); first | (refine hK _ ?_; clear hK K) | (apply Exists.intro; refine ⟨fun _ => ?_, hK _ ?_⟩; (fail); clear hK K) | (simp only [↓IntWalk.iteOmega]; (try go_simp); (try (go_ints; try go_simp)); first | (refine hK _ ?_; clear hK K) | (apply Exists.intro; refine ⟨fun _ => ?_, hK _ ?_⟩; (fail); clear hK K))); (refine walkQ_step (fun K hK => ?_); go_simp; (try (go_ints; try go_simp)); first | (refine hK _ ?_; clear hK K) | (apply Exists.intro; refine ⟨fun _ => ?_, hK _ ?_⟩; (fail); clear hK K) | (simp only [↓IntWalk.iteOmega]; (try go_simp); (try (go_ints; try go_simp)); first | (refine hK _ ?_; clear hK K) | (apply Exists.intro; refine ⟨fun _ => ?_, hK _ ?_⟩; (fail); clear hK K))); (refine walkQ_step (fun K hK => ?_); go_simp; (try (go_ints; try go_simp)); first | (refine hK _ ?_; clear hK K) | (apply Exists.intro; refine ⟨fun _ => ?_, hK _ ?_⟩; (fail); clear hK K) | (simp only [↓IntWalk.iteOmega]; (try go_simp); (try (go_ints; try go_simp)); first | (refine hK _ ?_; clear hK K) | (apply Exists.intro; refine ⟨fun _ => ?_, hK _ ?_⟩; (fail); clear hK K))); (refine walkQ_step (fun K hK => ?_); go_simp; (try (go_ints; try go_simp)); first | (refine hK _ ?_; clear hK K) | (apply Exists.intro; refine ⟨fun _ => ?_, hK _ ?_⟩; (fail); clear hK K) | (simp only [↓IntWalk.iteOmega]; (try go_simp); (try (go_ints; try go_simp)); first | (refine hK _ ?_; clear hK K) | (apply Exists.intro; refine ⟨fun _ => ?_, hK _ ?_⟩; (fail); clear hK K))); (refine walkQ_step (fun K hK => ?_); go_simp; (try (go_ints; try go_simp)); first | (refine hK _ ?_; clear hK K) | (apply Exists.intro; refine ⟨fun _ => ?_, hK _ ?_⟩; (fail); clear hK K) | (simp only [↓IntWalk.iteOmega]; (try go_simp); (try (go_ints; try go_simp)); first | (refine hK _ ?_; clear hK K) | (apply Exists.intro; refine ⟨fun _ => ?_, hK _ ?_⟩; (fail); clear hK K))); (refine walkQ_step (fun K hK => ?_); go_simp; (try (go_ints; try go_simp)); first | (refine hK _ ?_; clear hK K) | (apply Exists.intro; refine ⟨fun _ => ?_, hK _ ?_⟩; (fail); clear hK K) | (simp only [↓IntWalk.iteOmega]; (try go_simp); (try (go_ints; try go_simp)); first | (refine hK _ ?_; clear hK K) | (apply Exists.intro; refine ⟨fun _ => ?_, hK _ ?_⟩; (fail); clear hK K))); (refine walkQ_step (fun K hK => ?_); go_simp; (try (go_ints; try go_simp)); first | (refine hK _ ?_; clear hK K) | (apply Exists.intro; refine ⟨fun _ => ?_, hK _ ?_⟩; (fail); clear hK K) | (simp only [↓IntWalk.iteOmega]; (try go_simp); (try (go_ints; try go_simp)); first | (refine hK _ ?_; clear hK K) | (apply Exists.intro; refine ⟨fun _ => ?_, hK _ ?_⟩; (fail); clear hK K))); refine walkQ_nil ?_; clear hgr; refine walkF_nil ?_; intro w1 hE _; have hc2 := hE.cells; have hf2 := hE.frees; have hz2 := hE.size
            replace hE : Ext wq w1 := ((Ext.refl wq).drew).trans hE
            have HP2 := Lib.hid (HP1.out.ext hE)
            have HO2 := Lib.hid (HO1.out.trans (hE.off (fun k => k = w.heap.size)))
            have t1 := HP2.out.cell (j := y * 6 + x) (by omega)
            have t2 := HP2.out.free (y * 6 + x)
            go_wp2
            (first | exact ⟨⟨x + 1, by omega, by go_num, Off.set (S := fun k => k = w.heap.size) HO2.out (p := ⟨w.heap.size, y * 6 + x, none⟩) rfl _, (HP2.out.set (y * 6 + x) (r 0)).congr fun i _ => HM.out i⟩, by simp [intOf]; omega⟩ | (refine ⟨?_, by simp [intOf]; omega⟩; (repeat apply Exists.intro); exact ⟨⟨x + 1, by omega, by go_num, Off.set (S := fun k => k = w.heap.size) HO2.out (p := ⟨w.heap.size, y * 6 + x, none⟩) rfl _, (HP2.out.set (y * 6 + x) (r 0)).congr fun i _ => HM.out i⟩, rfl⟩))
        · obtain rfl : x = 6 := by omega
          go_wp2
          (first | exact ⟨⟨y + 1, by omega, by go_num, HO.out, by rw [show (y + 1) * 6 = y * 6 + 6 by omega]; exact HP.out⟩, by simp [intOf]; omega⟩ | (refine ⟨?_, by simp [intOf]; omega⟩; (repeat apply Exists.intro); exact ⟨⟨y + 1, by omega, by go_num, HO.out, by rw [show (y + 1) * 6 = y * 6 + 6 by omega]; exact HP.out⟩, rfl⟩))
    · obtain rfl : y = 6 := by omega
      have HR2 := Lib.hid (show Big wo (w.heap.size + 2) 57 36 (fun _ => 0) from (HO.out.block (w.heap.size + 2) (by omega) (by omega)).trans HRB.out)
      have HF := Lib.hid (show Big wo w.heap.size 57 36 (lay1 p (z, r 0)) from HP.out.congr fun i hi => madeTo_all _ _ i hi)
      have hxo : Ext w wo := Off.ext HXB.out HO.out (fun k hk => by omega)
      go_wp2_with (first | (refine wpList_load_row rfl 57 (.tmp 2) rfl _ rfl _ _ _ _ HF.out Try.underlying57 rfl (szIP _) ?_; (try go_simp)) | (refine wpList_store_new rfl rfl rfl rfl (b := w.heap.size + 2) HR2.out (szz6 _ _ _) (szIP _) (av_one _ _) ?_; intro w1 hO hN; (try go_simp)))
      exact bodyPost_ret (resultsIP rfl rfl hN) rfl ⟨rfl, hO.ext hxo (by omega)⟩
theorem walkQ_load_big {ops : Array Oper} {W : World} {o : Oper} {r : List Oper} {R : Act → Prop} {a : Act} {T ty : TypeId} {x : Operand} {b : Nat} {g : Nat → Int} (hgd : o.guard = none) (ho : o.op = .load ty x) (hx : a.eval x = .pointer (some ⟨b, 0, none⟩)) (hb : Big W b T 36 g)
    (hty : ∀ w, Big w b T 36 g → (loadVar ty ⟨b, 0, none⟩).run Try.prog w = .ok (.agg (av 36 g)) w) (k : walkQ Try.prog ops W r R (a.put o.dst (.agg (av 36 g)))) : walkQ Try.prog ops W (o :: r) R a := walkQ_step fun K hK => by
  rw [if_pos (by simp [Region.wanted, hgd])]
  refine ⟨_, fun y => ?_, hK _ k⟩
  unfold Oper.quietAt execOp
  simp only [ho, hx, Instr.loadAt, Instr.sureAddr, Sem.run_bind, Sem.run_pure, Result.andThen_ok, hty _ (hb.ext (ext_grow W y))]
  exact ⟨rfl, rfl⟩
/-- prints, made in an order -/
theorem l8All_n (n : Nat) (g : Nat → Int) (hn : n ≤ 1000) (hg : ∀ j, j < n → prB (rowG g j) = true) (O : List Nat) (hlen : O.length ≤ 1000) (hO : ∀ (i k : Nat), O[i]? = some k → k < n) (B C : Nat) (v u : Value) (w : World) (ho : w.ownsRow B 122 9 v n (Gl (n * 9) g)) (hu : w.ownsRow C 3 1 u O.length (ints O)) :
    Calls Try.prog 130 #[v, u] w fun e w' => e = .returned (.agg (av 36 (picL (O.map (layG g))))) ∧ Ext w w' := by
  obtain ⟨ao, cap, rfl, hsh⟩ := own_shape ho
  obtain ⟨uo, ucap, rfl, ush⟩ := own_shape hu
  have HI := Lib.hid ho
  have HU := Lib.hid hu
  have HK := Lib.hid hg
  have HG := Lib.hid hO
  clear ho hu hg hO
  go_enter Try.func130, Try.ntmps130
  go_wp2_with (first
    | (refine wpList_alloc_av rfl (makesIP rfl) ?_; (try go_simp))
    | (refine wpList_value rfl (buildIP rfl) ?_; (try go_simp))
    | (refine wpList_store_new rfl rfl rfl rfl (b := w.heap.size + 1) (Big.new _ 57 36 (fun _ => 0) (by simp)) (szz6 _ _ _) (szIP _) (av_one _ _) ?_; intro w1 hO hN; (try go_simp)))
  have HR0 := Lib.hid (((Big.new w 57 36 (fun _ => 0) rfl).ext ((Ext.refl _).alloc (.cells (av 36 (fun _ => 0)) 57))).only hO (by omega))
  have HX0 := Lib.hid (show Ext w w1 from hO.ext ((Ext.refl w).alloc _ |>.alloc _) (by omega))
  have HP0 := Lib.hid (show Big w1 (w.heap.size + 1) 57 36 (fun _ => 0) from hN)
  have hs1 : w1.heap.size = w.heap.size + 2 := by rw [hO.size]; simp
  obtain ⟨wa, rfl⟩ : ∃ x, x = w1 := ⟨_, rfl⟩
  clear hO hN
  go_wp2
  go_loopw [6] (fun i wr => ∃ j : Nat, j ≤ O.length ∧ i = .int .i64 j ∧ Ext w wr ∧ Big wr w.heap.size 57 36 (fun _ => 0) ∧ Big wr (w.heap.size + 1) 57 36 (picL ((O.map (layG g)).take j)) ∧ w.heap.size + 1 < wr.heap.size) (fun i _ => O.length - (intOf i).toNat)
  case atStart => exact ⟨0, Nat.zero_le _, rfl, HX0.out, HR0.out, by rw [List.take_zero]; exact HP0.out, by omega⟩
  case round =>
    clear HX0 HR0 HP0 hs1
    obtain ⟨j, hj, rfl, hx, hr, hp, hz⟩ := hrel
    obtain ⟨wo, rfl⟩ : ∃ wo : World, wo = wr := ⟨_, rfl⟩
    have HR := Lib.hid hr
    have HP := Lib.hid hp
    clear hr hp
    by_cases hlt : j < O.length
    · obtain ⟨k, hk⟩ : ∃ k, O[j]? = some k := ⟨O[j], List.getElem?_eq_getElem hlt⟩
      have hkn := HG.out j k hk
      obtain ⟨b, rfl, _, hb⟩ := hsh (by omega)
      obtain ⟨ub, rfl, _, hub⟩ := ush (by omega)
      obtain ⟨r, hr⟩ : ∃ r : Nat → Int, r = rowG g k := ⟨_, rfl⟩
      have hok := HK.out k hkn
      rw [← hr] at hok
      obtain ⟨hv, x, y, e7, e8, hx6, hy6⟩ := prB_parts hok
      have hL := layG_is hr e7 e8
      have HS := Lib.hid (picL_step (O.map (layG g)) j (layG g k) (by rw [List.getElem?_map, hk]; rfl))
      rw [hL] at HS
      have hset := setN_row ((vs_iff _).1 hv)
      have HC := Lib.hid (fun w => l8Cells_n r (setN (fun k => r (k + 1))) x y hset e7 e8 hx6 hy6 w)
      have HM := Lib.hid (fun p w => l8Made_n p r (sh (setN (fun k => r (k + 1))) x y) HC.out w)
      clear HC
      have hxs := hx.size
      have c0 : wo.cell? ⟨ub, j, none⟩ = some (.int .i64 (k : Int)) := ((own_ext HU.out hx).cellAt j (by omega)).trans (ints_get O j k hk)
      have d0 : wo.cell? ⟨b, k * 9 + 0, none⟩ = some (.int .i64 (r 0)) := by rw [hr]; exact ((own_ext HI.out hx).cellAt (k * 9 + 0) (by omega)).trans (Gl_get (by omega))
      have d1 : wo.cell? ⟨b, k * 9 + 1, none⟩ = some (.int .i64 (r 1)) := by rw [hr]; exact ((own_ext HI.out hx).cellAt (k * 9 + 1) (by omega)).trans (Gl_get (by omega))
      have d2 : wo.cell? ⟨b, k * 9 + 2, none⟩ = some (.int .i64 (r 2)) := by rw [hr]; exact ((own_ext HI.out hx).cellAt (k * 9 + 2) (by omega)).trans (Gl_get (by omega))
      have d3 : wo.cell? ⟨b, k * 9 + 3, none⟩ = some (.int .i64 (r 3)) := by rw [hr]; exact ((own_ext HI.out hx).cellAt (k * 9 + 3) (by omega)).trans (Gl_get (by omega))
      have d4 : wo.cell? ⟨b, k * 9 + 4, none⟩ = some (.int .i64 (r 4)) := by rw [hr]; exact ((own_ext HI.out hx).cellAt (k * 9 + 4) (by omega)).trans (Gl_get (by omega))
      have d5 : wo.cell? ⟨b, k * 9 + 5, none⟩ = some (.int .i64 (r 5)) := by rw [hr]; exact ((own_ext HI.out hx).cellAt (k * 9 + 5) (by omega)).trans (Gl_get (by omega))
      have d6 : wo.cell? ⟨b, k * 9 + 6, none⟩ = some (.int .i64 (r 6)) := by rw [hr]; exact ((own_ext HI.out hx).cellAt (k * 9 + 6) (by omega)).trans (Gl_get (by omega))
      have d7 : wo.cell? ⟨b, k * 9 + 7, none⟩ = some (.int .i64 (r 7)) := by rw [hr]; exact ((own_ext HI.out hx).cellAt (k * 9 + 7) (by omega)).trans (Gl_get (by omega))
      have d8 : wo.cell? ⟨b, k * 9 + 8, none⟩ = some (.int .i64 (r 8)) := by rw [hr]; exact ((own_ext HI.out hx).cellAt (k * 9 + 8) (by omega)).trans (Gl_get (by omega))
      rw [Nat.add_zero] at d0
      have zb : b < wo.heap.size := by omega
      have zub : ub < wo.heap.size := by omega
      clear hk hok hv e7 e8 hL hset hr
      generalize sh (setN (fun k => r (k + 1))) x y = z at *
      generalize picL ((O.map (layG g)).take j) = P at *
      skip
      go_wp2
      refine wp_calm 9 0 (fun _ => (#[], 0)) (by kernel_rfl) (by kernel_rfl) ?_; simp only [List.take_succ_cons, List.take_zero, List.drop_succ_cons, List.drop_zero]; intro hgr; (refine walkQ_load_big (b := w.heap.size + 1) rfl rfl rfl (HP.out.ext (Ext.refl wo).drew) (fun w h => h.loadIP) ?_); (refine walkQ_step (fun K hK => ?_); go_simp; (try (go_ints; try go_simp)); first | (refine hK _ ?_; clear hK K) | (apply Exists.intro; refine ⟨fun _ => ?_, hK _ ?_⟩; ((go_at_call 199; exact (HM.out _ _))); clear hK K) | (simp only [↓IntWalk.iteOmega]; (try go_simp); (try (go_ints; try go_simp)); first | (refine hK _ ?_; clear hK K) | (apply Exists.intro; refine ⟨fun _ => ?_, hK _ ?_⟩; ((go_at_call 199; exact (HM.out _ _))); clear hK K))); (refine walkQ_step (fun K hK => ?_); go_simp; (try (go_ints; try go_simp)); first | (refine hK _ ?_; clear hK K) | (apply Exists.intro; refine ⟨fun _ => ?_, hK _ ?_⟩; ((go_at_call 199; exact (HM.out _ _))); clear hK K) | (simp only [↓IntWalk.iteOmega]; (try go_simp); (try (go_ints; try go_simp)); first | (refine hK _ ?_; clear hK K) | (apply Exists.intro; refine ⟨fun _ => ?_, hK _ ?_⟩; ((go_at_call 199; exact (HM.out _ _))); clear hK K))); (refine walkQ_step (fun K hK => ?_); go_simp; (try (go_ints; try go_simp)); first | (refine hK _ ?_; clear hK K) | (apply Exists.intro; refine ⟨fun _ => ?_, hK _ ?_⟩; ((go_at_call 199; exact (HM.out _ _))); clear hK K) | (simp only [↓IntWalk.iteOmega]; (try go_simp); (try (go_ints; try go_simp)); first | (refine hK _ ?_; clear hK K) | (apply Exists.intro; refine ⟨fun _ => ?_, hK _ ?_⟩; ((go_at_call 199; exact (HM.out _ _))); clear hK K))); (refine walkQ_step (fun K hK => ?_); go_simp; (try (go_ints; try go_simp)); first | (refine hK _ ?_; clear hK K) | (apply Exists.intro; refine ⟨fun _ => ?_, hK _ ?_⟩; ((go_at_call 199; exact (HM.out _ _))); clear hK K) | (simp only [↓IntWalk.iteOmega]; (try go_simp); (try (go_ints; try go_simp)); first | (refine hK _ ?_; clear hK K) | (apply Exists.intro; refine ⟨fun _ => ?_, hK _ ?_⟩; ((go_at_call 199; exact (HM.out _ _))); clear hK K))); (refine walkQ_step (fun K hK => ?_); go_simp; (try (go_ints; try go_simp)); first | (refine hK _ ?_; clear hK K) | (apply Exists.intro; refine ⟨fun _ => ?_, hK _ ?_⟩; ((go_at_call 199; exact (HM.out _ _))); clear hK K) | (simp only [↓IntWalk.iteOmega]; (try go_simp); (try (go_ints; try go_simp)); first | (refine hK _ ?_; clear hK K) | (apply Exists.intro; refine ⟨fun _ => ?_, hK _ ?_⟩; ((go_at_call 199; exact (HM.out _ _))); clear hK K))); (refine walkQ_step (fun K hK => ?_); go_simp; (try (go_ints; try go_simp)); first | (refine hK _ ?_; clear hK K) | (apply Exists.intro; refine ⟨fun _ => ?_, hK _ ?_⟩; ((go_at_call 199; exact (HM.out _ _))); clear hK K) | (simp only [↓IntWalk.iteOmega]; (try go_simp); (try (go_ints; try go_simp)); first | (refine hK _ ?_; clear hK K) | (apply Exists.intro; refine ⟨fun _ => ?_, hK _ ?_⟩; ((go_at_call 199; exact (HM.out _ _))); clear hK K))); (refine walkQ_step (fun K hK => ?_); go_simp; (try (go_ints; try go_simp)); first | (refine hK _ ?_; clear hK K) | (apply Exists.intro; refine ⟨fun _ => ?_, hK _ ?_⟩; ((go_at_call 199; exact (HM.out _ _))); clear hK K) | (simp only [↓IntWalk.iteOmega]; (try go_simp); (try (go_ints; try go_simp)); first | (refine hK _ ?_; clear hK K) | (apply Exists.intro; refine ⟨fun _ => ?_, hK _ ?_⟩; ((go_at_call 199; exact (HM.out _ _))); clear hK K))); (refine walkQ_step (fun K hK => ?_); go_simp; (try (go_ints; try go_simp)); first | (refine hK _ ?_; clear hK K) | (apply Exists.intro; refine ⟨fun _ => ?_, hK _ ?_⟩; ((go_at_call 199; exact (HM.out _ _))); clear hK K) | (simp only [↓IntWalk.iteOmega]; (try go_simp); (try (go_ints; try go_simp)); first | (refine hK _ ?_; clear hK K) | (apply Exists.intro; refine ⟨fun _ => ?_, hK _ ?_⟩; ((go_at_call 199; exact (HM.out _ _))); clear hK K))); refine walkQ_nil ?_; clear hgr; refine walkF_nil ?_; intro w1 hE _; have hc2 := hE.cells; have hf2 := hE.frees; have hz2 := hE.size
      replace hE : Ext wo w1 := ((Ext.refl wo).drew).trans hE
      obtain ⟨wq, rfl⟩ : ∃ x, x = w1 := ⟨_, rfl⟩
      have HP2 := Lib.hid (HP.out.ext hE)
      have HR2 := Lib.hid (HR.out.ext hE)
      have hse := hE.size
      have hxe := hx.trans hE
      go_wp2_with (refine wpList_store_new rfl rfl rfl rfl (b := w.heap.size + 1) HP2.out (szz6 _ _ _) (szIP _) (av_one _ _) ?_; intro w1 hO hN; (try go_simp))
      have HR3 := Lib.hid (HR2.out.only hO (by omega))
      have hxo : Ext w w1 := hO.ext hxe (by omega)
      (first | exact ⟨⟨j + 1, by omega, by go_num, hxo, HR3.out, by rw [HS.out]; exact hN, by rw [hO.size]; omega⟩, by simp [intOf]; omega⟩ | (refine ⟨?_, by simp [intOf]; omega⟩; (repeat apply Exists.intro); exact ⟨⟨j + 1, by omega, by go_num, hxo, HR3.out, by rw [HS.out]; exact hN, by rw [hO.size]; omega⟩, rfl⟩))
    · obtain rfl : j = O.length := by omega
      rw [List.take_of_length_le (by rw [List.length_map]; exact Nat.le_refl _)] at HP
      go_wp2_with (first | (refine wpList_load_row rfl 57 (.tmp 5) rfl _ rfl _ _ _ _ HP.out Try.underlying57 rfl (szIP _) ?_; (try go_simp)) | (refine wpList_store_new rfl rfl rfl rfl (b := w.heap.size) HR.out (szz6 _ _ _) (szIP _) (av_one _ _) ?_; intro w1 hO hN; (try go_simp)))
      exact bodyPost_ret (resultsIP rfl rfl hN) rfl ⟨rfl, hO.ext hx (Nat.le_refl _)⟩
theorem sPictureOf_ok (n : Nat) (g : Nat → Int) (hn : n ≤ 6) (hg : ∀ j, j < n → prB (rowG g j) = true) (B : Nat) (v : Value) (w : World) (ho : w.ownsRow B 122 9 v n (Gl (n * 9) g)) :
    Calls Try.prog 38 #[v] w fun e w' => e = .returned (.tuple #[.agg (av 36 (picL (laysG g n))), .bool true]) ∧ Ext w w' := by
  have HL := Lib.hid (fun w ho => l8List_n n g hn hg B v w ho)
  have HA := Lib.hid (fun C u w (hu : w.ownsRow C 3 1 u n (ints (List.range n))) ho => l8All_n n g (by omega) hg (List.range n) (by simp; omega) (fun i k h => List.mem_range.1 (List.mem_of_getElem? h)) B C v u w ho (by rw [List.length_range]; exact hu))
  have HP := Lib.hid (fun w => l8Plain_n n (by omega) w)
  rw [show (List.range n).map (layG g) = laysG g n from rfl] at HA
  obtain ⟨ao, cap, rfl, hsh⟩ := own_shape ho
  have HI := Lib.hid ho
  clear ho hg
  generalize picL (laysG g n) = P at *
  skip
  go_enter Try.func38, Try.ntmps38
  go_wp2_with (first
    | (refine wpList_alloc_av rfl (makesIP rfl) ?_; (try go_simp))
    | (go_at_call 129; refine (HL.out _ (own_ext HI.out (by (repeat' (first | (with_reducible exact Ext.refl _) | (with_reducible assumption) | (with_reducible refine Ext.alloc ?_ _) | (with_reducible refine Ext.drew ?_) | (with_reducible refine Ext.drewN ?_ _) | (with_reducible refine Ext.setCell ?_ ?_ _) | (with_reducible refine Ext.trans ?_ (by assumption)))) <;> (first | (with_reducible assumption) | omega | (simp; done) | (simp; omega))))).mono ?_; rintro e w1 ⟨rfl, hE⟩; replace HR := Lib.hid ((show Big _ (w.heap.size) 57 36 ((fun _ => 0)) by first | exact HR.out | exact Big.new36 _ _ (by first | rfl | (simp; done) | (simp; omega)) | exact Big.new _ _ _ _ (by first | rfl | (simp; done) | (simp; omega)) | exact (Big.new _ _ _ _ (by first | rfl | (simp; done) | (simp; omega))).ext ((Ext.refl _).alloc _) | exact ((Big.new _ _ _ _ (by first | rfl | (simp; done) | (simp; omega))).ext ((Ext.refl _).alloc _)).ext ((Ext.refl _).alloc _)).ext hE))
    | (go_at_call 131; refine (HP.out _).mono ?_; rintro e w1 ⟨u, rfl, hE, ho⟩; skip; replace HR := Lib.hid ((show Big _ (w.heap.size) 57 36 ((fun _ => 0)) by first | exact HR.out | exact Big.new36 _ _ (by first | rfl | (simp; done) | (simp; omega)) | exact Big.new _ _ _ _ (by first | rfl | (simp; done) | (simp; omega)) | exact (Big.new _ _ _ _ (by first | rfl | (simp; done) | (simp; omega))).ext ((Ext.refl _).alloc _) | exact ((Big.new _ _ _ _ (by first | rfl | (simp; done) | (simp; omega))).ext ((Ext.refl _).alloc _)).ext ((Ext.refl _).alloc _)).ext hE); have HU := Lib.hid ho; clear ho; obtain ⟨wp, rfl⟩ : ∃ x, x = w1 := ⟨_, rfl⟩)
    | (go_at_call 130; refine (HA.out _ _ _ HU.out (own_ext HI.out (by (repeat' (first | (with_reducible exact Ext.refl _) | (with_reducible assumption) | (with_reducible refine Ext.alloc ?_ _) | (with_reducible refine Ext.drew ?_) | (with_reducible refine Ext.drewN ?_ _) | (with_reducible refine Ext.setCell ?_ ?_ _) | (with_reducible refine Ext.trans ?_ (by assumption)))) <;> (first | (with_reducible assumption) | omega | (simp; done) | (simp; omega))))).mono ?_; rintro e w1 ⟨rfl, hE⟩; skip; replace HR := Lib.hid ((show Big _ (w.heap.size) 57 36 ((fun _ => 0)) by first | exact HR.out | exact Big.new36 _ _ (by first | rfl | (simp; done) | (simp; omega)) | exact Big.new _ _ _ _ (by first | rfl | (simp; done) | (simp; omega)) | exact (Big.new _ _ _ _ (by first | rfl | (simp; done) | (simp; omega))).ext ((Ext.refl _).alloc _) | exact ((Big.new _ _ _ _ (by first | rfl | (simp; done) | (simp; omega))).ext ((Ext.refl _).alloc _)).ext ((Ext.refl _).alloc _)).ext hE); obtain ⟨wq, rfl⟩ : ∃ x, x = w1 := ⟨_, rfl⟩)
    | (refine wpList_store_new rfl rfl rfl rfl (b := w.heap.size) HR.out (szz6 _ _ _) (szIP _) (av_one _ _) ?_; intro w1 hO hN; (try go_simp)))
  exact bodyPost_ret (resultsIP_tmp rfl rfl rfl hN) rfl ⟨rfl, hO.ext (by (repeat' (first | (with_reducible exact Ext.refl _) | (with_reducible assumption) | (with_reducible refine Ext.alloc ?_ _) | (with_reducible refine Ext.drew ?_) | (with_reducible refine Ext.drewN ?_ _) | (with_reducible refine Ext.setCell ?_ ?_ _) | (with_reducible refine Ext.trans ?_ (by assumption)))) <;> (first | (with_reducible assumption) | omega | (simp; done) | (simp; omega))) (by omega)⟩
theorem sPictureOf_bad (n j0 : Nat) (g : Nat → Int) (hn : n ≤ 1048576) (hj0 : j0 < n) (hg : ∀ j, j < j0 → prB (rowG g j) = true) (hb0 : 6 < j0 ∨ prB (rowG g j0) = false ∨ 6 < n) (B : Nat) (v : Value) (w : World) (ho : w.ownsRow B 122 9 v n (Gl (n * 9) g)) :
    Calls Try.prog 38 #[v] w fun e w' => e = .returned (.tuple #[.agg (av 36 (fun _ => 0)), .bool false]) ∧ Ext w w' := by
  have HL := Lib.hid (fun w ho => l8List_bad n j0 g hn hj0 hg hb0 B v w ho)
  have HI := Lib.hid ho
  clear ho hg hb0
  skip
  go_enter Try.func38, Try.ntmps38
  go_wp2_with (first
    | (refine wpList_alloc_av rfl (makesIP rfl) ?_; (try go_simp))
    | (go_at_call 129; refine (HL.out _ (own_ext HI.out (by (repeat' (first | (with_reducible exact Ext.refl _) | (with_reducible assumption) | (with_reducible refine Ext.alloc ?_ _) | (with_reducible refine Ext.drew ?_) | (with_reducible refine Ext.drewN ?_ _) | (with_reducible refine Ext.setCell ?_ ?_ _) | (with_reducible refine Ext.trans ?_ (by assumption)))) <;> (first | (with_reducible assumption) | omega | (simp; done) | (simp; omega))))).mono ?_; rintro e w1 ⟨rfl, hE⟩; replace HR := Lib.hid ((show Big _ (w.heap.size) 57 36 ((fun _ => 0)) by first | exact HR.out | exact Big.new36 _ _ (by first | rfl | (simp; done) | (simp; omega)) | exact Big.new _ _ _ _ (by first | rfl | (simp; done) | (simp; omega)) | exact (Big.new _ _ _ _ (by first | rfl | (simp; done) | (simp; omega))).ext ((Ext.refl _).alloc _) | exact ((Big.new _ _ _ _ (by first | rfl | (simp; done) | (simp; omega))).ext ((Ext.refl _).alloc _)).ext ((Ext.refl _).alloc _)).ext hE))
    | (refine wpList_value rfl (buildIP rfl) ?_; (try go_simp))
    | (refine wpList_store_new rfl rfl rfl rfl (b := w.heap.size) HR.out (szz6 _ _ _) (szIP _) (av_one _ _) ?_; intro w1 hO hN; (try go_simp)))
  exact bodyPost_ret (resultsIP_tmp rfl rfl rfl hN) rfl ⟨rfl, hO.ext (by (repeat' (first | (with_reducible exact Ext.refl _) | (with_reducible assumption) | (with_reducible refine Ext.alloc ?_ _) | (with_reducible refine Ext.drew ?_) | (with_reducible refine Ext.drewN ?_ _) | (with_reducible refine Ext.setCell ?_ ?_ _) | (with_reducible refine Ext.trans ?_ (by assumption)))) <;> (first | (with_reducible assumption) | omega | (simp; done) | (simp; omega))) (by omega)⟩
theorem PictureOf_ok (n : Nat) (g : Nat → Int) (hn : n ≤ 6) (hg : ∀ j, j < n → prB (rowG g j) = true) (B : Nat) (v : Value) (w : World) (ho : w.ownsRow B 122 9 v n (Gl (n * 9) g)) :
    Calls Try.prog 40 #[v] w fun e w' => e = .returned (.tuple #[.agg (av 36 (picL (laysG g n))), .bool true]) ∧ Ext w w' := by
  have HL := Lib.hid (fun w ho => layersOf_n n g (by omega) hg B v w ho)
  have HP := Lib.hid (fun B v w (ho : w.ownsRow B 134 2 v n (lays (laysG g n))) => picture_n (laysG g n) (fun i l h => by
    unfold laysG at h
    rw [List.getElem?_map] at h
    obtain ⟨k, _, rfl⟩ := Option.map_eq_some_iff.1 h
    exact ownG_lt g k) (by rw [laysG_length]; omega) B v w (by rw [laysG_length]; exact ho))
  have hb : decide ((n : Int) ≤ 6) = true := decide_eq_true (by omega)
  rw [hb] at HL
  have HI := Lib.hid ho
  clear ho hg hb
  generalize picL (laysG g n) = P at *
  skip
  go_enter Try.func40, Try.ntmps40
  go_wp2_with (first
    | (refine wpList_alloc_av rfl (makesIP rfl) ?_; (try go_simp))
    | (go_at_call 133; refine (HL.out _ (own_ext HI.out (by (repeat' (first | (with_reducible exact Ext.refl _) | (with_reducible assumption) | (with_reducible refine Ext.alloc ?_ _) | (with_reducible refine Ext.drew ?_) | (with_reducible refine Ext.drewN ?_ _) | (with_reducible refine Ext.setCell ?_ ?_ _) | (with_reducible refine Ext.trans ?_ (by assumption)))) <;> (first | (with_reducible assumption) | omega | (simp; done) | (simp; omega))))).mono ?_; rintro e w1 ⟨u, rfl, hE, ho⟩; skip; replace HR := Lib.hid ((show Big _ (w.heap.size) 57 36 ((fun _ => 0)) by first | exact HR.out | exact Big.new36 _ _ (by first | rfl | (simp; done) | (simp; omega)) | exact Big.new _ _ _ _ (by first | rfl | (simp; done) | (simp; omega)) | exact (Big.new _ _ _ _ (by first | rfl | (simp; done) | (simp; omega))).ext ((Ext.refl _).alloc _) | exact ((Big.new _ _ _ _ (by first | rfl | (simp; done) | (simp; omega))).ext ((Ext.refl _).alloc _)).ext ((Ext.refl _).alloc _)).ext hE); have HU := Lib.hid ho; clear ho; obtain ⟨wp, rfl⟩ : ∃ x, x = w1 := ⟨_, rfl⟩)
    | (go_at_call 134; refine (HP.out _ _ _ HU.out).mono ?_; rintro e w1 ⟨rfl, hE⟩; skip; replace HR := Lib.hid ((show Big _ (w.heap.size) 57 36 ((fun _ => 0)) by first | exact HR.out | exact Big.new36 _ _ (by first | rfl | (simp; done) | (simp; omega)) | exact Big.new _ _ _ _ (by first | rfl | (simp; done) | (simp; omega)) | exact (Big.new _ _ _ _ (by first | rfl | (simp; done) | (simp; omega))).ext ((Ext.refl _).alloc _) | exact ((Big.new _ _ _ _ (by first | rfl | (simp; done) | (simp; omega))).ext ((Ext.refl _).alloc _)).ext ((Ext.refl _).alloc _)).ext hE); obtain ⟨wq, rfl⟩ : ∃ x, x = w1 := ⟨_, rfl⟩)
    | (refine wpList_store_new rfl rfl rfl rfl (b := w.heap.size) HR.out (szz6 _ _ _) (szIP _) (av_one _ _) ?_; intro w1 hO hN; (try go_simp)))
  exact bodyPost_ret (resultsIP_tmp rfl rfl rfl hN) rfl ⟨rfl, hO.ext (by (repeat' (first | (with_reducible exact Ext.refl _) | (with_reducible assumption) | (with_reducible refine Ext.alloc ?_ _) | (with_reducible refine Ext.drew ?_) | (with_reducible refine Ext.drewN ?_ _) | (with_reducible refine Ext.setCell ?_ ?_ _) | (with_reducible refine Ext.trans ?_ (by assumption)))) <;> (first | (with_reducible assumption) | omega | (simp; done) | (simp; omega))) (by omega)⟩
theorem PictureOf_bad (n j0 : Nat) (g : Nat → Int) (hn : n ≤ 1048576) (hj0 : j0 < n) (hg : ∀ j, j < j0 → prB (rowG g j) = true) (hb0 : prB (rowG g j0) = false) (B : Nat) (v : Value) (w : World) (ho : w.ownsRow B 122 9 v n (Gl (n * 9) g)) :
    Calls Try.prog 40 #[v] w fun e w' => e = .returned (.tuple #[.agg (av 36 (fun _ => 0)), .bool false]) ∧ Ext w w' := by
  have HL := Lib.hid (fun w ho => layersOf_bad n j0 g hn hj0 hg hb0 B v w ho)
  have HI := Lib.hid ho
  clear ho hg hb0
  skip
  go_enter Try.func40, Try.ntmps40
  go_wp2_with (first
    | (refine wpList_alloc_av rfl (makesIP rfl) ?_; (try go_simp))
    | (go_at_call 133; refine (HL.out _ (own_ext HI.out (by (repeat' (first | (with_reducible exact Ext.refl _) | (with_reducible assumption) | (with_reducible refine Ext.alloc ?_ _) | (with_reducible refine Ext.drew ?_) | (with_reducible refine Ext.drewN ?_ _) | (with_reducible refine Ext.setCell ?_ ?_ _) | (with_reducible refine Ext.trans ?_ (by assumption)))) <;> (first | (with_reducible assumption) | omega | (simp; done) | (simp; omega))))).mono ?_; rintro e w1 ⟨rfl, hE⟩; replace HR := Lib.hid ((show Big _ (w.heap.size) 57 36 ((fun _ => 0)) by first | exact HR.out | exact Big.new36 _ _ (by first | rfl | (simp; done) | (simp; omega)) | exact Big.new _ _ _ _ (by first | rfl | (simp; done) | (simp; omega)) | exact (Big.new _ _ _ _ (by first | rfl | (simp; done) | (simp; omega))).ext ((Ext.refl _).alloc _) | exact ((Big.new _ _ _ _ (by first | rfl | (simp; done) | (simp; omega))).ext ((Ext.refl _).alloc _)).ext ((Ext.refl _).alloc _)).ext hE))
    | (refine wpList_value rfl (buildIP rfl) ?_; (try go_simp))
    | (refine wpList_store_new rfl rfl rfl rfl (b := w.heap.size) HR.out (szz6 _ _ _) (szIP _) (av_one _ _) ?_; intro w1 hO hN; (try go_simp)))
  exact bodyPost_ret (resultsIP_tmp rfl rfl rfl hN) rfl ⟨rfl, hO.ext (by (repeat' (first | (with_reducible exact Ext.refl _) | (with_reducible assumption) | (with_reducible refine Ext.alloc ?_ _) | (with_reducible refine Ext.drew ?_) | (with_reducible refine Ext.drewN ?_ _) | (with_reducible refine Ext.setCell ?_ ?_ _) | (with_reducible refine Ext.trans ?_ (by assumption)))) <;> (first | (with_reducible assumption) | omega | (simp; done) | (simp; omega))) (by omega)⟩
theorem PictureOf_many (n : Nat) (g : Nat → Int) (hn : n ≤ 1048576) (h6 : 6 < n) (hg : ∀ j, j < n → prB (rowG g j) = true) (B : Nat) (v : Value) (w : World) (ho : w.ownsRow B 122 9 v n (Gl (n * 9) g)) :
    Calls Try.prog 40 #[v] w fun e w' => e = .returned (.tuple #[.agg (av 36 (fun _ => 0)), .bool false]) ∧ Ext w w' := by
  have HL := Lib.hid (fun w ho => layersOf_n n g hn hg B v w ho)
  have hb : decide ((n : Int) ≤ 6) = false := decide_eq_false (by omega)
  rw [hb] at HL
  have HI := Lib.hid ho
  clear ho hg hb
  skip
  go_enter Try.func40, Try.ntmps40
  go_wp2_with (first
    | (refine wpList_alloc_av rfl (makesIP rfl) ?_; (try go_simp))
    | (go_at_call 133; refine (HL.out _ (own_ext HI.out (by (repeat' (first | (with_reducible exact Ext.refl _) | (with_reducible assumption) | (with_reducible refine Ext.alloc ?_ _) | (with_reducible refine Ext.drew ?_) | (with_reducible refine Ext.drewN ?_ _) | (with_reducible refine Ext.setCell ?_ ?_ _) | (with_reducible refine Ext.trans ?_ (by assumption)))) <;> (first | (with_reducible assumption) | omega | (simp; done) | (simp; omega))))).mono ?_; rintro e w1 ⟨u, rfl, hE, ho⟩; skip; replace HR := Lib.hid ((show Big _ (w.heap.size) 57 36 ((fun _ => 0)) by first | exact HR.out | exact Big.new36 _ _ (by first | rfl | (simp; done) | (simp; omega)) | exact Big.new _ _ _ _ (by first | rfl | (simp; done) | (simp; omega)) | exact (Big.new _ _ _ _ (by first | rfl | (simp; done) | (simp; omega))).ext ((Ext.refl _).alloc _) | exact ((Big.new _ _ _ _ (by first | rfl | (simp; done) | (simp; omega))).ext ((Ext.refl _).alloc _)).ext ((Ext.refl _).alloc _)).ext hE); have HU := Lib.hid ho; clear ho; obtain ⟨wp, rfl⟩ : ∃ x, x = w1 := ⟨_, rfl⟩)
    | (refine wpList_value rfl (buildIP rfl) ?_; (try go_simp))
    | (refine wpList_store_new rfl rfl rfl rfl (b := w.heap.size) HR.out (szz6 _ _ _) (szIP _) (av_one _ _) ?_; intro w1 hO hN; (try go_simp)))
  exact bodyPost_ret (resultsIP_tmp rfl rfl rfl hN) rfl ⟨rfl, hO.ext (by (repeat' (first | (with_reducible exact Ext.refl _) | (with_reducible assumption) | (with_reducible refine Ext.alloc ?_ _) | (with_reducible refine Ext.drew ?_) | (with_reducible refine Ext.drewN ?_ _) | (with_reducible refine Ext.setCell ?_ ?_ _) | (with_reducible refine Ext.trans ?_ (by assumption)))) <;> (first | (with_reducible assumption) | omega | (simp; done) | (simp; omega))) (by omega)⟩
end Go.Proofs.Ytadnfocbfabjnaa
