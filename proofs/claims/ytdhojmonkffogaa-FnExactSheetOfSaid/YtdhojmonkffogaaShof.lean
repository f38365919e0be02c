/- Shof: contracts of functions, and lemmas, for this seat. Conditions: as each states. -/
import Derived.Test.YtdhojmonkffogaaRaw
import Derived.Test.YtdhojmonkffogaaNbr
import Derived.Test.YtdhojmonkffogaaConv
set_option linter.unusedVariables false
set_option maxRecDepth 100000
set_option maxHeartbeats 1000000
namespace Go.Proofs.Ytdhojmonkffogaa
open Go Go.RowKit Instr
/-- the set of the first j cells -/
def ofN (g : Nat → Int) : Nat → Nat
  | 0 => 0
  | j + 1 => ofN g j ||| 2 ^ nbr g j
theorem ofN_lt {g : Nat → Int} : ∀ {n : Nat}, cellsOk g n → ofN g n < 68719476736
  | 0, _ => (by omega : (0 : Nat) < 68719476736)
  | n + 1, h => or36 (ofN_lt fun i hi => h i (Nat.lt_succ_of_lt hi)) (pow36 (nbr_xy (h n (Nat.lt_succ_self n))).1)
theorem ofN_0 (g : Nat → Int) : ofN g 0 = 0 := rfl
theorem ofN_1 (g : Nat → Int) (j : Nat) : ofN g (j + 1) = ofN g j ||| 2 ^ nbr g j := rfl
attribute [irreducible] ofN
theorem orp_row (n x y : Nat) (hx : x < 6) (hy : y < 6) : bits .or .i64 (rw n y) (IntKind.i64.wrap (2 ^ x)) = rw (n ||| 2 ^ (y * 6 + x)) y := by
  have h1 := rowN_lt n y
  have h2 : 2 ^ x < 2 ^ 6 := Nat.pow_lt_pow_right (by omega) hx
  have e : IntKind.i64.wrap (2 ^ x) = ((2 ^ x : Nat) : Int) := by
    rw [show ((2 : Int) ^ x) = ((2 ^ x : Nat) : Int) by simp]
    refine IntWalk.i64_in _ ⟨by have := Int.natCast_nonneg (2 ^ x); omega, ?_⟩
    generalize 2 ^ x = m at *
    omega
  rw [e, rw_nat, ior _ _ (by omega) (by omega)]
  refine rw_row (fun j hj => ?_) (Nat.or_lt_two_pow (n := 6) h1 h2)
  rw [Nat.testBit_or, Nat.testBit_or, testBit_rowN, Nat.testBit_two_pow, Nat.testBit_two_pow]
  have : decide (x = j) = decide (y * 6 + x = 6 * y + j) := by
    rw [decide_eq_decide]; omega
  rw [this]
  simp [hj]
theorem orp_other (n x y j : Nat) (hx : x < 6) (hj : j ≠ y) : rw n j = rw (n ||| 2 ^ (y * 6 + x)) j := by
  rw [rw_nat n j]
  refine rw_row (fun i hi => ?_) (rowN_lt n j)
  rw [Nat.testBit_or, testBit_rowN, Nat.testBit_two_pow]
  have : decide (y * 6 + x = 6 * j + i) = false := by simp; omega
  rw [this]
  simp [hi]
theorem or_put {a k : Nat} (ha : a < 68719476736) (hk : k < 36) : bits .or .u64 (a : Int) (IntKind.u64.wrap (2 ^ k)) = ((a ||| 2 ^ k : Nat) : Int) := by
  rw [bit_put k hk, or64 ha (pow36 hk)]
theorem SheetOf_ok (n : Nat) (g : Nat → Int) (hn : n ≤ 1048576) (hg : cellsOk g n) (B : Nat) (v : Value) (w : World) (ho : w.ownsRow B 32 2 v n (Gl (n * 2) g)) :
    Calls Try.prog 27 #[v] w fun e w' => e = .returned (.tuple #[(.agg #[.int .i64 (rw (ofN g n) 0), .int .i64 (rw (ofN g n) 1), .int .i64 (rw (ofN g n) 2), .int .i64 (rw (ofN g n) 3), .int .i64 (rw (ofN g n) 4), .int .i64 (rw (ofN g n) 5)]), .bool true]) ∧ Ext w w' := by
  obtain ⟨ao, cap, rfl, hsh⟩ := own_shape ho
  have HI := Lib.hid ho
  have HK := Lib.hid hg
  have HS := Lib.hid (fun w => sheet_n (ofN g n) (ofN_lt hg) w)
  have HL := Lib.hid (fun j (hj : j ≤ n) => ofN_lt (g := g) (n := j) fun i hi => hg i (by omega))
  clear ho hg
  skip
  go_enter Try.func27, Try.ntmps27
  go_wp2
  go_loopw [4, 9] (fun o i wr => ∃ j : Nat, j ≤ n ∧ i = .int .i64 j ∧ o = .int .u64 (ofN g j : Nat) ∧ Ext w wr ∧ Arr wr w.heap.size (fun _ => 0) ∧ w.heap.size < wr.heap.size) (fun _ i _ => n - (intOf i).toNat)
  case atStart => exact ⟨0, Nat.zero_le _, rfl, by rw [ofN_0]; rfl, (by (repeat' (first | (with_reducible exact Ext.refl _) | (with_reducible assumption) | (with_reducible refine Ext.alloc ?_ _) | (with_reducible refine Ext.drew ?_) | (with_reducible refine Ext.drewN ?_ _) | (with_reducible refine Ext.setCell ?_ ?_ _) | (with_reducible refine Ext.trans ?_ (by assumption)))) <;> (first | (with_reducible assumption) | omega | (simp; done) | (simp; omega))), Arr.new0 _ _ (by simp), by simp⟩
  case round =>
    obtain ⟨j, hj, rfl, rfl, hx, hr, hz⟩ := hrel
    obtain ⟨wo, rfl⟩ : ∃ wo : World, wo = wr := ⟨_, rfl⟩
    have HR := Lib.hid hr
    clear hr
    by_cases hlt : j < n
    · obtain ⟨b, rfl, _, hb⟩ := hsh (by omega)
      have hc := HK.out j hlt
      obtain ⟨hk36, e1, e2⟩ := nbr_xy hc
      have hx6 : nbr g j % 6 < 6 := by omega
      have hy6 : nbr g j / 6 < 6 := by omega
      have c1 := ((own_ext HI.out hx).cellAt (j * 2) (by omega)).trans (Gl_get (by omega))
      have c2 := ((own_ext HI.out hx).cellAt (j * 2 + 1) (by omega)).trans (Gl_get (by omega))
      have HC := Lib.hid (fun w => isCell_is (g (j * 2)) (g (j * 2 + 1)) _ hc w)
      rw [e1, e2] at HC
      rw [e1] at c1
      rw [e2] at c2
      have HN := Lib.hid (fun w => number_any (nbr g j % 6) (nbr g j / 6) hx6 hy6 w)
      rw [show nbr g j / 6 * 6 + nbr g j % 6 = nbr g j by omega] at HN
      have HO := Lib.hid (or_put (HL.out j hj) hk36)
      rw [← ofN_1] at HO
      clear hc e1 e2
      have hl1 := HL.out j hj
      generalize nbr g j = k at *
      generalize k % 6 = kx at *
      generalize k / 6 = ky at *
      skip
      go_wp2_with (first | ((go_at_call 65; refine (HC.out _).mono ?_; rintro e w1 ⟨rfl, hE⟩); have hs : wo.heap.size + 1 ≤ w1.heap.size := (by simpa using hE.size); have p0 : w1.cell? ⟨wo.heap.size, 0, none⟩ = some (.int .i64 (kx : Int)) := (hE.cells wo.heap.size 0 (by simp)).trans (by go_simp); have p1 : w1.cell? ⟨wo.heap.size, 1, none⟩ = some (.int .i64 (ky : Int)) := (hE.cells wo.heap.size 1 (by simp)).trans (by go_simp); obtain ⟨wa, rfl⟩ : ∃ x, x = w1 := ⟨_, rfl⟩) | ((go_at_call 77; refine (HN.out _).mono ?_; rintro e w1 ⟨rfl, hE⟩); obtain ⟨wb, rfl⟩ : ∃ x, x = w1 := ⟨_, rfl⟩))
      refine ⟨⟨j + 1, by omega, by go_num, ?_, (by (repeat' (first | (with_reducible exact Ext.refl _) | (with_reducible assumption) | (with_reducible refine Ext.alloc ?_ _) | (with_reducible refine Ext.drew ?_) | (with_reducible refine Ext.drewN ?_ _) | (with_reducible refine Ext.setCell ?_ ?_ _) | (with_reducible refine Ext.trans ?_ (by assumption)))) <;> (first | (with_reducible assumption) | omega | (simp; done) | (simp; omega))), HR.out.ext ((by (repeat' (first | (with_reducible exact Ext.refl _) | (with_reducible assumption) | (with_reducible refine Ext.alloc ?_ _) | (with_reducible refine Ext.drew ?_) | (with_reducible refine Ext.drewN ?_ _) | (with_reducible refine Ext.setCell ?_ ?_ _) | (with_reducible refine Ext.trans ?_ (by assumption)))) <;> (first | (with_reducible assumption) | omega | (simp; done) | (simp; omega))) : Ext wo _) hz, Nat.lt_of_lt_of_le hz ((by (repeat' (first | (with_reducible exact Ext.refl _) | (with_reducible assumption) | (with_reducible refine Ext.alloc ?_ _) | (with_reducible refine Ext.drew ?_) | (with_reducible refine Ext.drewN ?_ _) | (with_reducible refine Ext.setCell ?_ ?_ _) | (with_reducible refine Ext.trans ?_ (by assumption)))) <;> (first | (with_reducible assumption) | omega | (simp; done) | (simp; omega))) : Ext wo _).size⟩, by simp [intOf]; omega⟩
      exact val_int HO.out
    · obtain rfl : j = n := by omega
      skip
      obtain ⟨⟨d0, d1, d2, d3, d4, d5⟩, f0, f1, f2, f3, f4, f5⟩ := HR.out.all
      go_wp2_with ((go_at_call 73; refine (HS.out _).mono ?_; rintro e w1 ⟨rfl, hE⟩); have HR1 := Lib.hid (HR.out.ext hE hz); clear d0 d1 d2 d3 d4 d5 f0 f1 f2 f3 f4 f5; obtain ⟨⟨d0, d1, d2, d3, d4, d5⟩, f0, f1, f2, f3, f4, f5⟩ := HR1.out.all)
      exact bodyPost_ret (ret_cell_tmp rfl rfl rfl (load_sheet (HR1.out.six (rw (ofN g j))))) rfl ⟨rfl, (by (repeat' (first | (with_reducible exact Ext.refl _) | (with_reducible assumption) | (with_reducible refine Ext.alloc ?_ _) | (with_reducible refine Ext.drew ?_) | (with_reducible refine Ext.drewN ?_ _) | (with_reducible refine Ext.setCell ?_ ?_ _) | (with_reducible refine Ext.trans ?_ (by assumption)))) <;> (first | (with_reducible assumption) | omega | (simp; done) | (simp; omega)))⟩
theorem SheetOf_bad (n j0 : Nat) (g : Nat → Int) (hn : n ≤ 1048576) (hj0 : j0 < n) (hok : cellsOk g j0) (hg : okC (g (j0 * 2)) (g (j0 * 2 + 1)) = false) (B : Nat) (v : Value) (w : World) (ho : w.ownsRow B 32 2 v n (Gl (n * 2) g)) :
    Calls Try.prog 27 #[v] w fun e w' => e = .returned (.tuple #[(.agg #[.int .i64 0, .int .i64 0, .int .i64 0, .int .i64 0, .int .i64 0, .int .i64 0]), .bool false]) ∧ Ext w w' := by
  obtain ⟨ao, cap, rfl, hsh⟩ := own_shape ho
  have HI := Lib.hid ho
  have HK := Lib.hid hok
  have HB := Lib.hid hg
  have HL := Lib.hid (fun j (hj : j ≤ j0) => ofN_lt (g := g) (n := j) fun i hi => hok i (by omega))
  clear ho hg hok
  skip
  go_enter Try.func27, Try.ntmps27
  go_wp2
  go_loopw [4, 9] (fun o i wr => ∃ j : Nat, j ≤ j0 ∧ i = .int .i64 j ∧ o = .int .u64 (ofN g j : Nat) ∧ Ext w wr ∧ Arr wr w.heap.size (fun _ => 0) ∧ w.heap.size < wr.heap.size) (fun _ i _ => n - (intOf i).toNat)
  case atStart => exact ⟨0, Nat.zero_le _, rfl, by rw [ofN_0]; rfl, (by (repeat' (first | (with_reducible exact Ext.refl _) | (with_reducible assumption) | (with_reducible refine Ext.alloc ?_ _) | (with_reducible refine Ext.drew ?_) | (with_reducible refine Ext.drewN ?_ _) | (with_reducible refine Ext.setCell ?_ ?_ _) | (with_reducible refine Ext.trans ?_ (by assumption)))) <;> (first | (with_reducible assumption) | omega | (simp; done) | (simp; omega))), Arr.new0 _ _ (by simp), by simp⟩
  case round =>
    obtain ⟨j, hj, rfl, rfl, hx, hr, hz⟩ := hrel
    obtain ⟨wo, rfl⟩ : ∃ wo : World, wo = wr := ⟨_, rfl⟩
    have HR := Lib.hid hr
    clear hr
    have hlt : j < n := by omega
    obtain ⟨b, rfl, _, hb⟩ := hsh (by omega)
    have c1 := ((own_ext HI.out hx).cellAt (j * 2) (by omega)).trans (Gl_get (by omega))
    have c2 := ((own_ext HI.out hx).cellAt (j * 2 + 1) (by omega)).trans (Gl_get (by omega))
    rcases Nat.lt_or_ge j j0 with hjl | hjl
    · have hc := HK.out j hjl
      obtain ⟨hk36, e1, e2⟩ := nbr_xy hc
      have hx6 : nbr g j % 6 < 6 := by omega
      have hy6 : nbr g j / 6 < 6 := by omega
      have HC := Lib.hid (fun w => isCell_is (g (j * 2)) (g (j * 2 + 1)) _ hc w)
      rw [e1, e2] at HC
      rw [e1] at c1
      rw [e2] at c2
      have HN := Lib.hid (fun w => number_any (nbr g j % 6) (nbr g j / 6) hx6 hy6 w)
      rw [show nbr g j / 6 * 6 + nbr g j % 6 = nbr g j by omega] at HN
      have HO := Lib.hid (or_put (HL.out j hj) hk36)
      rw [← ofN_1] at HO
      clear hc e1 e2
      generalize nbr g j = k at *
      generalize k % 6 = kx at *
      generalize k / 6 = ky at *
      skip
      go_wp2_with (first | ((go_at_call 65; refine (HC.out _).mono ?_; rintro e w1 ⟨rfl, hE⟩); have hs : wo.heap.size + 1 ≤ w1.heap.size := (by simpa using hE.size); have p0 : w1.cell? ⟨wo.heap.size, 0, none⟩ = some (.int .i64 (kx : Int)) := (hE.cells wo.heap.size 0 (by simp)).trans (by go_simp); have p1 : w1.cell? ⟨wo.heap.size, 1, none⟩ = some (.int .i64 (ky : Int)) := (hE.cells wo.heap.size 1 (by simp)).trans (by go_simp); obtain ⟨wa, rfl⟩ : ∃ x, x = w1 := ⟨_, rfl⟩) | ((go_at_call 77; refine (HN.out _).mono ?_; rintro e w1 ⟨rfl, hE⟩); obtain ⟨wb, rfl⟩ : ∃ x, x = w1 := ⟨_, rfl⟩))
      refine ⟨⟨j + 1, by omega, by go_num, ?_, (by (repeat' (first | (with_reducible exact Ext.refl _) | (with_reducible assumption) | (with_reducible refine Ext.alloc ?_ _) | (with_reducible refine Ext.drew ?_) | (with_reducible refine Ext.drewN ?_ _) | (with_reducible refine Ext.setCell ?_ ?_ _) | (with_reducible refine Ext.trans ?_ (by assumption)))) <;> (first | (with_reducible assumption) | omega | (simp; done) | (simp; omega))), HR.out.ext ((by (repeat' (first | (with_reducible exact Ext.refl _) | (with_reducible assumption) | (with_reducible refine Ext.alloc ?_ _) | (with_reducible refine Ext.drew ?_) | (with_reducible refine Ext.drewN ?_ _) | (with_reducible refine Ext.setCell ?_ ?_ _) | (with_reducible refine Ext.trans ?_ (by assumption)))) <;> (first | (with_reducible assumption) | omega | (simp; done) | (simp; omega))) : Ext wo _) hz, Nat.lt_of_lt_of_le hz ((by (repeat' (first | (with_reducible exact Ext.refl _) | (with_reducible assumption) | (with_reducible refine Ext.alloc ?_ _) | (with_reducible refine Ext.drew ?_) | (with_reducible refine Ext.drewN ?_ _) | (with_reducible refine Ext.setCell ?_ ?_ _) | (with_reducible refine Ext.trans ?_ (by assumption)))) <;> (first | (with_reducible assumption) | omega | (simp; done) | (simp; omega))) : Ext wo _).size⟩, by simp [intOf]; omega⟩
      exact val_int HO.out
    · obtain rfl : j = j0 := by omega
      have HC := Lib.hid (fun w => isCell_is (g (j * 2)) (g (j * 2 + 1)) _ HB.out w)
      generalize g (j * 2) = gx at *
      generalize g (j * 2 + 1) = gy at *
      skip
      go_wp2_with ((go_at_call 65; refine (HC.out _).mono ?_; rintro e w1 ⟨rfl, hE⟩); have HR1 := Lib.hid (HR.out.ext ((by (repeat' (first | (with_reducible exact Ext.refl _) | (with_reducible assumption) | (with_reducible refine Ext.alloc ?_ _) | (with_reducible refine Ext.drew ?_) | (with_reducible refine Ext.drewN ?_ _) | (with_reducible refine Ext.setCell ?_ ?_ _) | (with_reducible refine Ext.trans ?_ (by assumption)))) <;> (first | (with_reducible assumption) | omega | (simp; done) | (simp; omega))) : Ext wo w1) hz); obtain ⟨⟨d0, d1, d2, d3, d4, d5⟩, f0, f1, f2, f3, f4, f5⟩ := HR1.out.all)
      exact bodyPost_ret (ret_cell_tmp rfl rfl rfl (load_sheet (HR1.out.six (fun _ => 0)))) rfl ⟨rfl, (by (repeat' (first | (with_reducible exact Ext.refl _) | (with_reducible assumption) | (with_reducible refine Ext.alloc ?_ _) | (with_reducible refine Ext.drew ?_) | (with_reducible refine Ext.drewN ?_ _) | (with_reducible refine Ext.setCell ?_ ?_ _) | (with_reducible refine Ext.trans ?_ (by assumption)))) <;> (first | (with_reducible assumption) | omega | (simp; done) | (simp; omega)))⟩
theorem l2Of_n (n : Nat) (g : Nat → Int) (hn : n ≤ 1048576) (hg : cellsOk g n) (B : Nat) (v : Value) (w : World) (ho : w.ownsRow B 32 2 v n (Gl (n * 2) g)) :
    Calls Try.prog 76 #[v] w fun e w' => e = .returned (.agg #[.int .i64 (rw (ofN g n) 0), .int .i64 (rw (ofN g n) 1), .int .i64 (rw (ofN g n) 2), .int .i64 (rw (ofN g n) 3), .int .i64 (rw (ofN g n) 4), .int .i64 (rw (ofN g n) 5)]) ∧ Ext w w' := by
  obtain ⟨ao, cap, rfl, hsh⟩ := own_shape ho
  have HI := Lib.hid ho
  have HK := Lib.hid hg
  clear ho hg
  skip
  go_enter Try.func76, Try.ntmps76
  go_wp2
  go_loopw [4] (fun i wr => ∃ j : Nat, j ≤ n ∧ i = .int .i64 j ∧ Ext w wr ∧ Arr wr w.heap.size (fun _ => 0) ∧ Arr wr (w.heap.size + 1) (rw (ofN g j)) ∧ w.heap.size + 1 < wr.heap.size) (fun i _ => n - (intOf i).toNat)
  case atStart => exact ⟨0, Nat.zero_le _, rfl, (by (repeat' (first | (with_reducible exact Ext.refl _) | (with_reducible assumption) | (with_reducible refine Ext.alloc ?_ _) | (with_reducible refine Ext.drew ?_) | (with_reducible refine Ext.drewN ?_ _) | (with_reducible refine Ext.setCell ?_ ?_ _) | (with_reducible refine Ext.trans ?_ (by assumption)))) <;> (first | (with_reducible assumption) | omega | (simp; done) | (simp; omega))), (Arr.new0 _ _ (by simp)).alloc _ (by simp), (Arr.new0 _ _ (by simp)).congr fun j _ => (show (0 : Int) = rw (ofN g 0) j by rw [ofN_0, rw_nat]; unfold rowN; rw [Nat.zero_div]; rfl), by simp⟩
  case round =>
    obtain ⟨j, hj, rfl, hx, hr, ht, hz⟩ := hrel
    obtain ⟨wo, rfl⟩ : ∃ wo : World, wo = wr := ⟨_, rfl⟩
    have HR := Lib.hid hr
    have HT := Lib.hid ht
    clear hr ht
    by_cases hlt : j < n
    · obtain ⟨b, rfl, hB, hb⟩ := hsh (by omega)
      have hsz := hx.size
      have hvo : b < wo.heap.size := by omega
      have hc := HK.out j hlt
      obtain ⟨hk36, e1, e2⟩ := nbr_xy hc
      have hx6 : nbr g j % 6 < 6 := by omega
      have hy6 : nbr g j / 6 < 6 := by omega
      have c1 := ((own_ext HI.out hx).cellAt (j * 2) (by omega)).trans (Gl_get (by omega))
      have c2 := ((own_ext HI.out hx).cellAt (j * 2 + 1) (by omega)).trans (Gl_get (by omega))
      obtain ⟨c3, f3⟩ := HT.out (nbr g j / 6) hy6
      have r0 := rw_0 (ofN g j) (nbr g j / 6)
      have r63 := rw_63 (ofN g j) (nbr g j / 6)
      have HP := Lib.hid (orp_row (ofN g j) (nbr g j % 6) (nbr g j / 6) hx6 hy6)
      have HQ := Lib.hid (fun i => orp_other (ofN g j) (nbr g j % 6) (nbr g j / 6) i hx6)
      rw [show nbr g j / 6 * 6 + nbr g j % 6 = nbr g j by omega, ← ofN_1] at HP HQ
      rw [e1] at c1
      rw [e2] at c2
      clear hc e1 e2
      generalize nbr g j = k at *
      generalize k % 6 = kx at *
      generalize k / 6 = ky at *
      go_wp2
      refine wp_still 22 (by kernel_rfl) (by kernel_rfl) ?_; simp only [List.take_succ_cons, List.take_zero, List.drop_succ_cons, List.drop_zero]; (refine wpStill_step (fun K hK => ?_); go_simp; (try (go_ints; try go_simp)); first | (refine hK _ ?_; clear hK K) | (apply Exists.intro; refine ⟨?_, hK _ ?_⟩; (fail); clear hK K) | (simp only [↓IntWalk.iteOmega]; (try go_simp); (try (go_ints; try go_simp)); first | (refine hK _ ?_; clear hK K) | (apply Exists.intro; refine ⟨?_, hK _ ?_⟩; (fail); clear hK K))); (refine wpStill_step (fun K hK => ?_); go_simp; (try (go_ints; try go_simp)); first | (refine hK _ ?_; clear hK K) | (apply Exists.intro; refine ⟨?_, hK _ ?_⟩; (fail); clear hK K) | (simp only [↓IntWalk.iteOmega]; (try go_simp); (try (go_ints; try go_simp)); first | (refine hK _ ?_; clear hK K) | (apply Exists.intro; refine ⟨?_, hK _ ?_⟩; (fail); clear hK K))); (refine wpStill_step (fun K hK => ?_); go_simp; (try (go_ints; try go_simp)); first | (refine hK _ ?_; clear hK K) | (apply Exists.intro; refine ⟨?_, hK _ ?_⟩; (fail); clear hK K) | (simp only [↓IntWalk.iteOmega]; (try go_simp); (try (go_ints; try go_simp)); first | (refine hK _ ?_; clear hK K) | (apply Exists.intro; refine ⟨?_, hK _ ?_⟩; (fail); clear hK K))); (refine wpStill_step (fun K hK => ?_); go_simp; (try (go_ints; try go_simp)); first | (refine hK _ ?_; clear hK K) | (apply Exists.intro; refine ⟨?_, hK _ ?_⟩; (fail); clear hK K) | (simp only [↓IntWalk.iteOmega]; (try go_simp); (try (go_ints; try go_simp)); first | (refine hK _ ?_; clear hK K) | (apply Exists.intro; refine ⟨?_, hK _ ?_⟩; (fail); clear hK K))); (refine wpStill_step (fun K hK => ?_); go_simp; (try (go_ints; try go_simp)); first | (refine hK _ ?_; clear hK K) | (apply Exists.intro; refine ⟨?_, hK _ ?_⟩; (fail); clear hK K) | (simp only [↓IntWalk.iteOmega]; (try go_simp); (try (go_ints; try go_simp)); first | (refine hK _ ?_; clear hK K) | (apply Exists.intro; refine ⟨?_, hK _ ?_⟩; (fail); clear hK K))); (refine wpStill_step (fun K hK => ?_); go_simp; (try (go_ints; try go_simp)); first | (refine hK _ ?_; clear hK K) | (apply Exists.intro; refine ⟨?_, hK _ ?_⟩; (fail); clear hK K) | (simp only [↓IntWalk.iteOmega]; (try go_simp); (try (go_ints; try go_simp)); first | (refine hK _ ?_; clear hK K) | (apply Exists.intro; refine ⟨?_, hK _ ?_⟩; (fail); clear hK K))); (refine wpStill_step (fun K hK => ?_); go_simp; (try (go_ints; try go_simp)); first | (refine hK _ ?_; clear hK K) | (apply Exists.intro; refine ⟨?_, hK _ ?_⟩; (fail); clear hK K) | (simp only [↓IntWalk.iteOmega]; (try go_simp); (try (go_ints; try go_simp)); first | (refine hK _ ?_; clear hK K) | (apply Exists.intro; refine ⟨?_, hK _ ?_⟩; (fail); clear hK K))); (refine wpStill_step (fun K hK => ?_); go_simp; (try (go_ints; try go_simp)); first | (refine hK _ ?_; clear hK K) | (apply Exists.intro; refine ⟨?_, hK _ ?_⟩; (fail); clear hK K) | (simp only [↓IntWalk.iteOmega]; (try go_simp); (try (go_ints; try go_simp)); first | (refine hK _ ?_; clear hK K) | (apply Exists.intro; refine ⟨?_, hK _ ?_⟩; (fail); clear hK K))); (refine wpStill_step (fun K hK => ?_); go_simp; (try (go_ints; try go_simp)); first | (refine hK _ ?_; clear hK K) | (apply Exists.intro; refine ⟨?_, hK _ ?_⟩; (fail); clear hK K) | (simp only [↓IntWalk.iteOmega]; (try go_simp); (try (go_ints; try go_simp)); first | (refine hK _ ?_; clear hK K) | (apply Exists.intro; refine ⟨?_, hK _ ?_⟩; (fail); clear hK K))); (refine wpStill_step (fun K hK => ?_); go_simp; (try (go_ints; try go_simp)); first | (refine hK _ ?_; clear hK K) | (apply Exists.intro; refine ⟨?_, hK _ ?_⟩; (fail); clear hK K) | (simp only [↓IntWalk.iteOmega]; (try go_simp); (try (go_ints; try go_simp)); first | (refine hK _ ?_; clear hK K) | (apply Exists.intro; refine ⟨?_, hK _ ?_⟩; (fail); clear hK K))); (refine wpStill_step (fun K hK => ?_); go_simp; (try (go_ints; try go_simp)); first | (refine hK _ ?_; clear hK K) | (apply Exists.intro; refine ⟨?_, hK _ ?_⟩; (fail); clear hK K) | (simp only [↓IntWalk.iteOmega]; (try go_simp); (try (go_ints; try go_simp)); first | (refine hK _ ?_; clear hK K) | (apply Exists.intro; refine ⟨?_, hK _ ?_⟩; (fail); clear hK K))); (refine wpStill_step (fun K hK => ?_); go_simp; (try (go_ints; try go_simp)); first | (refine hK _ ?_; clear hK K) | (apply Exists.intro; refine ⟨?_, hK _ ?_⟩; (fail); clear hK K) | (simp only [↓IntWalk.iteOmega]; (try go_simp); (try (go_ints; try go_simp)); first | (refine hK _ ?_; clear hK K) | (apply Exists.intro; refine ⟨?_, hK _ ?_⟩; (fail); clear hK K))); (refine wpStill_step (fun K hK => ?_); go_simp; (try (go_ints; try go_simp)); first | (refine hK _ ?_; clear hK K) | (apply Exists.intro; refine ⟨?_, hK _ ?_⟩; (fail); clear hK K) | (simp only [↓IntWalk.iteOmega]; (try go_simp); (try (go_ints; try go_simp)); first | (refine hK _ ?_; clear hK K) | (apply Exists.intro; refine ⟨?_, hK _ ?_⟩; (fail); clear hK K))); (refine wpStill_step (fun K hK => ?_); go_simp; (try (go_ints; try go_simp)); first | (refine hK _ ?_; clear hK K) | (apply Exists.intro; refine ⟨?_, hK _ ?_⟩; (fail); clear hK K) | (simp only [↓IntWalk.iteOmega]; (try go_simp); (try (go_ints; try go_simp)); first | (refine hK _ ?_; clear hK K) | (apply Exists.intro; refine ⟨?_, hK _ ?_⟩; (fail); clear hK K))); (refine wpStill_step (fun K hK => ?_); go_simp; (try (go_ints; try go_simp)); first | (refine hK _ ?_; clear hK K) | (apply Exists.intro; refine ⟨?_, hK _ ?_⟩; (fail); clear hK K) | (simp only [↓IntWalk.iteOmega]; (try go_simp); (try (go_ints; try go_simp)); first | (refine hK _ ?_; clear hK K) | (apply Exists.intro; refine ⟨?_, hK _ ?_⟩; (fail); clear hK K))); (refine wpStill_step (fun K hK => ?_); go_simp; (try (go_ints; try go_simp)); first | (refine hK _ ?_; clear hK K) | (apply Exists.intro; refine ⟨?_, hK _ ?_⟩; (fail); clear hK K) | (simp only [↓IntWalk.iteOmega]; (try go_simp); (try (go_ints; try go_simp)); first | (refine hK _ ?_; clear hK K) | (apply Exists.intro; refine ⟨?_, hK _ ?_⟩; (fail); clear hK K))); (refine wpStill_step (fun K hK => ?_); go_simp; (try (go_ints; try go_simp)); first | (refine hK _ ?_; clear hK K) | (apply Exists.intro; refine ⟨?_, hK _ ?_⟩; (fail); clear hK K) | (simp only [↓IntWalk.iteOmega]; (try go_simp); (try (go_ints; try go_simp)); first | (refine hK _ ?_; clear hK K) | (apply Exists.intro; refine ⟨?_, hK _ ?_⟩; (fail); clear hK K))); (refine wpStill_step (fun K hK => ?_); go_simp; (try (go_ints; try go_simp)); first | (refine hK _ ?_; clear hK K) | (apply Exists.intro; refine ⟨?_, hK _ ?_⟩; (fail); clear hK K) | (simp only [↓IntWalk.iteOmega]; (try go_simp); (try (go_ints; try go_simp)); first | (refine hK _ ?_; clear hK K) | (apply Exists.intro; refine ⟨?_, hK _ ?_⟩; (fail); clear hK K))); (refine wpStill_step (fun K hK => ?_); go_simp; (try (go_ints; try go_simp)); first | (refine hK _ ?_; clear hK K) | (apply Exists.intro; refine ⟨?_, hK _ ?_⟩; (fail); clear hK K) | (simp only [↓IntWalk.iteOmega]; (try go_simp); (try (go_ints; try go_simp)); first | (refine hK _ ?_; clear hK K) | (apply Exists.intro; refine ⟨?_, hK _ ?_⟩; (fail); clear hK K))); (refine wpStill_step (fun K hK => ?_); go_simp; (try (go_ints; try go_simp)); first | (refine hK _ ?_; clear hK K) | (apply Exists.intro; refine ⟨?_, hK _ ?_⟩; (fail); clear hK K) | (simp only [↓IntWalk.iteOmega]; (try go_simp); (try (go_ints; try go_simp)); first | (refine hK _ ?_; clear hK K) | (apply Exists.intro; refine ⟨?_, hK _ ?_⟩; (fail); clear hK K))); (refine wpStill_step (fun K hK => ?_); go_simp; (try (go_ints; try go_simp)); first | (refine hK _ ?_; clear hK K) | (apply Exists.intro; refine ⟨?_, hK _ ?_⟩; (fail); clear hK K) | (simp only [↓IntWalk.iteOmega]; (try go_simp); (try (go_ints; try go_simp)); first | (refine hK _ ?_; clear hK K) | (apply Exists.intro; refine ⟨?_, hK _ ?_⟩; (fail); clear hK K))); (refine wpStill_step (fun K hK => ?_); go_simp; (try (go_ints; try go_simp)); first | (refine hK _ ?_; clear hK K) | (apply Exists.intro; refine ⟨?_, hK _ ?_⟩; (fail); clear hK K) | (simp only [↓IntWalk.iteOmega]; (try go_simp); (try (go_ints; try go_simp)); first | (refine hK _ ?_; clear hK K) | (apply Exists.intro; refine ⟨?_, hK _ ?_⟩; (fail); clear hK K))); refine wpStill_nil ?_
      go_wp2
      refine ⟨⟨j + 1, by omega, by go_num, (by (repeat' (first | (with_reducible exact Ext.refl _) | (with_reducible assumption) | (with_reducible refine Ext.alloc ?_ _) | (with_reducible refine Ext.drew ?_) | (with_reducible refine Ext.drewN ?_ _) | (with_reducible refine Ext.setCell ?_ ?_ _) | (with_reducible refine Ext.trans ?_ (by assumption)))) <;> (first | (with_reducible assumption) | omega | (simp; done) | (simp; omega))), ?_, ?_, by simp; omega⟩, by simp [intOf]; omega⟩
      · exact (HR.out).far (by simp; try omega) _
      · exact ((HT.out).set (p := ky) hy6 _).congr (fun i hi => by
          show (if i = ky then _ else _) = _
          by_cases e : i = ky
          · subst e; rw [if_pos rfl]; first | exact HP.out | (rw [← IntWalk.i64_left]; exact HP.out)
          · rw [if_neg e]; exact HQ.out i e)
    · obtain rfl : j = n := by omega
      obtain ⟨⟨c0, c1, c2, c3, c4, c5⟩, _⟩ := HT.out.all
      obtain ⟨⟨d0, d1, d2, d3, d4, d5⟩, f0, f1, f2, f3, f4, f5⟩ := HR.out.all
      go_wp2
      exact bodyPost_ret (ret_cell rfl rfl (load_sheet (HR.out.six (rw (ofN g j))))) rfl ⟨rfl, (by (repeat' (first | (with_reducible exact Ext.refl _) | (with_reducible assumption) | (with_reducible refine Ext.alloc ?_ _) | (with_reducible refine Ext.drew ?_) | (with_reducible refine Ext.drewN ?_ _) | (with_reducible refine Ext.setCell ?_ ?_ _) | (with_reducible refine Ext.trans ?_ (by assumption)))) <;> (first | (with_reducible assumption) | omega | (simp; done) | (simp; omega)))⟩
theorem sSheetOf_ok (n : Nat) (g : Nat → Int) (hn : n ≤ 1048576) (hg : cellsOk g n) (B : Nat) (v : Value) (w : World) (ho : w.ownsRow B 32 2 v n (Gl (n * 2) g)) :
    Calls Try.prog 25 #[v] w fun e w' => e = .returned (.tuple #[(.agg #[.int .i64 (rw (ofN g n) 0), .int .i64 (rw (ofN g n) 1), .int .i64 (rw (ofN g n) 2), .int .i64 (rw (ofN g n) 3), .int .i64 (rw (ofN g n) 4), .int .i64 (rw (ofN g n) 5)]), .bool true]) ∧ Ext w w' := by
  have HL := Lib.hid (fun w ho => l2Of_n n g hn hg B v w ho)
  obtain ⟨ao, cap, rfl, hsh⟩ := own_shape ho
  have HI := Lib.hid ho
  have HK := Lib.hid hg
  clear ho hg
  skip
  go_enter Try.func25, Try.ntmps25
  go_wp2
  go_loopw [4] (fun i wr => ∃ j : Nat, j ≤ n ∧ i = .int .i64 j ∧ Ext w wr ∧ Arr wr w.heap.size (fun _ => 0) ∧ w.heap.size < wr.heap.size) (fun i _ => n - (intOf i).toNat)
  case atStart => exact ⟨0, Nat.zero_le _, rfl, (by (repeat' (first | (with_reducible exact Ext.refl _) | (with_reducible assumption) | (with_reducible refine Ext.alloc ?_ _) | (with_reducible refine Ext.drew ?_) | (with_reducible refine Ext.drewN ?_ _) | (with_reducible refine Ext.setCell ?_ ?_ _) | (with_reducible refine Ext.trans ?_ (by assumption)))) <;> (first | (with_reducible assumption) | omega | (simp; done) | (simp; omega))), Arr.new0 _ _ (by simp), by simp⟩
  case round =>
    obtain ⟨j, hj, rfl, hx, hr, hz⟩ := hrel
    obtain ⟨wo, rfl⟩ : ∃ wo : World, wo = wr := ⟨_, rfl⟩
    have HR := Lib.hid hr
    clear hr
    by_cases hlt : j < n
    · obtain ⟨b, rfl, _, hb⟩ := hsh (by omega)
      have c1 := ((own_ext HI.out hx).cellAt (j * 2) (by omega)).trans (Gl_get (by omega))
      have c2 := ((own_ext HI.out hx).cellAt (j * 2 + 1) (by omega)).trans (Gl_get (by omega))
      have HC := Lib.hid (fun w => l2Cell_is (g (j * 2)) (g (j * 2 + 1)) _ (HK.out j hlt) w)
      skip
      go_wp2_with (go_at_call 75; refine (HC.out _).mono ?_; rintro e w1 ⟨rfl, hE⟩)
      exact ⟨⟨j + 1, by omega, by go_num, (by (repeat' (first | (with_reducible exact Ext.refl _) | (with_reducible assumption) | (with_reducible refine Ext.alloc ?_ _) | (with_reducible refine Ext.drew ?_) | (with_reducible refine Ext.drewN ?_ _) | (with_reducible refine Ext.setCell ?_ ?_ _) | (with_reducible refine Ext.trans ?_ (by assumption)))) <;> (first | (with_reducible assumption) | omega | (simp; done) | (simp; omega))), HR.out.ext ((by (repeat' (first | (with_reducible exact Ext.refl _) | (with_reducible assumption) | (with_reducible refine Ext.alloc ?_ _) | (with_reducible refine Ext.drew ?_) | (with_reducible refine Ext.drewN ?_ _) | (with_reducible refine Ext.setCell ?_ ?_ _) | (with_reducible refine Ext.trans ?_ (by assumption)))) <;> (first | (with_reducible assumption) | omega | (simp; done) | (simp; omega))) : Ext wo _) hz, Nat.lt_of_lt_of_le hz ((by (repeat' (first | (with_reducible exact Ext.refl _) | (with_reducible assumption) | (with_reducible refine Ext.alloc ?_ _) | (with_reducible refine Ext.drew ?_) | (with_reducible refine Ext.drewN ?_ _) | (with_reducible refine Ext.setCell ?_ ?_ _) | (with_reducible refine Ext.trans ?_ (by assumption)))) <;> (first | (with_reducible assumption) | omega | (simp; done) | (simp; omega))) : Ext wo _).size⟩, by simp [intOf]; omega⟩
    · obtain rfl : j = n := by omega
      skip
      go_wp2_with (go_at_call 76; refine (HL.out _ (own_ext HI.out hx)).mono ?_; rintro e w1 ⟨rfl, hE⟩; have HR1 := Lib.hid (HR.out.ext hE hz); obtain ⟨⟨d0, d1, d2, d3, d4, d5⟩, f0, f1, f2, f3, f4, f5⟩ := HR1.out.all)
      exact bodyPost_ret (ret_cell_tmp rfl rfl rfl (load_sheet (HR1.out.six (rw (ofN g j))))) rfl ⟨rfl, (by (repeat' (first | (with_reducible exact Ext.refl _) | (with_reducible assumption) | (with_reducible refine Ext.alloc ?_ _) | (with_reducible refine Ext.drew ?_) | (with_reducible refine Ext.drewN ?_ _) | (with_reducible refine Ext.setCell ?_ ?_ _) | (with_reducible refine Ext.trans ?_ (by assumption)))) <;> (first | (with_reducible assumption) | omega | (simp; done) | (simp; omega)))⟩
theorem sSheetOf_bad (n j0 : Nat) (g : Nat → Int) (hn : n ≤ 1048576) (hj0 : j0 < n) (hok : cellsOk g j0) (hg : okC (g (j0 * 2)) (g (j0 * 2 + 1)) = false) (B : Nat) (v : Value) (w : World) (ho : w.ownsRow B 32 2 v n (Gl (n * 2) g)) :
    Calls Try.prog 25 #[v] w fun e w' => e = .returned (.tuple #[(.agg #[.int .i64 0, .int .i64 0, .int .i64 0, .int .i64 0, .int .i64 0, .int .i64 0]), .bool false]) ∧ Ext w w' := by
  obtain ⟨ao, cap, rfl, hsh⟩ := own_shape ho
  have HI := Lib.hid ho
  have HK := Lib.hid hok
  have HB := Lib.hid hg
  clear ho hg hok
  skip
  go_enter Try.func25, Try.ntmps25
  go_wp2
  go_loopw [4] (fun i wr => ∃ j : Nat, j ≤ j0 ∧ i = .int .i64 j ∧ Ext w wr ∧ Arr wr w.heap.size (fun _ => 0) ∧ w.heap.size < wr.heap.size) (fun i _ => n - (intOf i).toNat)
  case atStart => exact ⟨0, Nat.zero_le _, rfl, (by (repeat' (first | (with_reducible exact Ext.refl _) | (with_reducible assumption) | (with_reducible refine Ext.alloc ?_ _) | (with_reducible refine Ext.drew ?_) | (with_reducible refine Ext.drewN ?_ _) | (with_reducible refine Ext.setCell ?_ ?_ _) | (with_reducible refine Ext.trans ?_ (by assumption)))) <;> (first | (with_reducible assumption) | omega | (simp; done) | (simp; omega))), Arr.new0 _ _ (by simp), by simp⟩
  case round =>
    obtain ⟨j, hj, rfl, hx, hr, hz⟩ := hrel
    obtain ⟨wo, rfl⟩ : ∃ wo : World, wo = wr := ⟨_, rfl⟩
    have HR := Lib.hid hr
    clear hr
    have hlt : j < n := by omega
    obtain ⟨b, rfl, _, hb⟩ := hsh (by omega)
    have c1 := ((own_ext HI.out hx).cellAt (j * 2) (by omega)).trans (Gl_get (by omega))
    have c2 := ((own_ext HI.out hx).cellAt (j * 2 + 1) (by omega)).trans (Gl_get (by omega))
    rcases Nat.lt_or_ge j j0 with hjl | hjl
    · have HC := Lib.hid (fun w => l2Cell_is (g (j * 2)) (g (j * 2 + 1)) _ (HK.out j hjl) w)
      skip
      go_wp2_with (go_at_call 75; refine (HC.out _).mono ?_; rintro e w1 ⟨rfl, hE⟩)
      exact ⟨⟨j + 1, by omega, by go_num, (by (repeat' (first | (with_reducible exact Ext.refl _) | (with_reducible assumption) | (with_reducible refine Ext.alloc ?_ _) | (with_reducible refine Ext.drew ?_) | (with_reducible refine Ext.drewN ?_ _) | (with_reducible refine Ext.setCell ?_ ?_ _) | (with_reducible refine Ext.trans ?_ (by assumption)))) <;> (first | (with_reducible assumption) | omega | (simp; done) | (simp; omega))), HR.out.ext ((by (repeat' (first | (with_reducible exact Ext.refl _) | (with_reducible assumption) | (with_reducible refine Ext.alloc ?_ _) | (with_reducible refine Ext.drew ?_) | (with_reducible refine Ext.drewN ?_ _) | (with_reducible refine Ext.setCell ?_ ?_ _) | (with_reducible refine Ext.trans ?_ (by assumption)))) <;> (first | (with_reducible assumption) | omega | (simp; done) | (simp; omega))) : Ext wo _) hz, Nat.lt_of_lt_of_le hz ((by (repeat' (first | (with_reducible exact Ext.refl _) | (with_reducible assumption) | (with_reducible refine Ext.alloc ?_ _) | (with_reducible refine Ext.drew ?_) | (with_reducible refine Ext.drewN ?_ _) | (with_reducible refine Ext.setCell ?_ ?_ _) | (with_reducible refine Ext.trans ?_ (by assumption)))) <;> (first | (with_reducible assumption) | omega | (simp; done) | (simp; omega))) : Ext wo _).size⟩, by simp [intOf]; omega⟩
    · obtain rfl : j = j0 := by omega
      have HC := Lib.hid (fun w => l2Cell_is (g (j * 2)) (g (j * 2 + 1)) _ HB.out w)
      generalize g (j * 2) = gx at *
      generalize g (j * 2 + 1) = gy at *
      skip
      go_wp2_with ((go_at_call 75; refine (HC.out _).mono ?_; rintro e w1 ⟨rfl, hE⟩); have HR1 := Lib.hid (HR.out.ext ((by (repeat' (first | (with_reducible exact Ext.refl _) | (with_reducible assumption) | (with_reducible refine Ext.alloc ?_ _) | (with_reducible refine Ext.drew ?_) | (with_reducible refine Ext.drewN ?_ _) | (with_reducible refine Ext.setCell ?_ ?_ _) | (with_reducible refine Ext.trans ?_ (by assumption)))) <;> (first | (with_reducible assumption) | omega | (simp; done) | (simp; omega))) : Ext wo w1) hz); obtain ⟨⟨d0, d1, d2, d3, d4, d5⟩, f0, f1, f2, f3, f4, f5⟩ := HR1.out.all)
      exact bodyPost_ret (ret_cell_tmp rfl rfl rfl (load_sheet (HR1.out.six (fun _ => 0)))) rfl ⟨rfl, (by (repeat' (first | (with_reducible exact Ext.refl _) | (with_reducible assumption) | (with_reducible refine Ext.alloc ?_ _) | (with_reducible refine Ext.drew ?_) | (with_reducible refine Ext.drewN ?_ _) | (with_reducible refine Ext.setCell ?_ ?_ _) | (with_reducible refine Ext.trans ?_ (by assumption)))) <;> (first | (with_reducible assumption) | omega | (simp; done) | (simp; omega)))⟩
end Go.Proofs.Ytdhojmonkffogaa
