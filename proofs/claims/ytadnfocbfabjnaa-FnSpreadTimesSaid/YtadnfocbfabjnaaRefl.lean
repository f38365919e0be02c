/- Refl: contracts of functions, and lemmas, for this seat. Conditions: as each states. -/
import Derived.Test.YtadnfocbfabjnaaSprC
set_option linter.unusedVariables false
set_option maxRecDepth 100000
set_option maxHeartbeats 4000000
namespace Go.Proofs.Ytadnfocbfabjnaa
open Go Go.RowKit Instr
def rfI (L : List Nat) : Nat := L.foldl (fun o k => o ^^^ 2 ^ (neg6 k)) 0
theorem rfI_app (L : List Nat) (k : Nat) : rfI (L ++ [k]) = rfI L ^^^ 2 ^ (neg6 k) := by unfold rfI; rw [List.foldl_append]; rfl
theorem rfI_step (L : List Nat) (j k : Nat) (h : L[j]? = some k) : rfI (L.take (j + 1)) = rfI (L.take j) ^^^ 2 ^ (neg6 k) := by
  rw [List.take_add_one, h]
  exact rfI_app _ _
theorem rfI_bit (m : Nat) (j : Nat) (hj : j < 36) : ∀ k, k ≤ 36 → ((rfI (fl m.testBit k)).testBit j = true ↔ (neg6 j < k ∧ m.testBit (neg6 j) = true))
  | 0, _ => by
    have : rfI (fl m.testBit 0) = 0 := rfl
    rw [this, Nat.zero_testBit]
    exact ⟨fun h => (by cases h), fun h => absurd h.1 (Nat.not_lt_zero _)⟩
  | k + 1, hk => by
    have ih := rfI_bit m j hj k (by omega)
    cases hp : m.testBit k
    · rw [fl_miss hp, ih]
      constructor
      · rintro ⟨h1, h2⟩; exact ⟨by omega, h2⟩
      · rintro ⟨h1, h2⟩
        rcases Nat.lt_or_ge (neg6 j) k with h | h
        · exact ⟨h, h2⟩
        · have : neg6 j = k := by omega
          rw [this, hp] at h2
          cases h2
    · rw [fl_hit hp, rfI_app, Nat.testBit_xor, Nat.testBit_two_pow]
      by_cases e : neg6 j = k
      · subst e
        have h1 : (rfI (fl m.testBit (neg6 j))).testBit j = false := by
          rw [← Bool.not_eq_true]
          intro h
          have := (ih.1 h).1
          omega
        rw [h1, neg_neg6 hj, decide_eq_true rfl]
        simp [hp]
      · have h2 : decide (neg6 k = j) = false := decide_eq_false fun h => e (by rw [← h, neg_neg6 (by omega)])
        rw [h2, Bool.xor_false, ih]
        constructor
        · rintro ⟨h1, h3⟩; exact ⟨by omega, h3⟩
        · rintro ⟨h1, h3⟩; exact ⟨by omega, h3⟩
theorem rfI_lt : ∀ (L : List Nat) (o : Nat), o < 68719476736 → L.foldl (fun o k => o ^^^ 2 ^ (neg6 k)) o < 68719476736
  | [], o, h => h
  | k :: L, o, h => by rw [List.foldl_cons]; exact rfI_lt L _ (xor36 h (pow36 (neg6_lt k)))
theorem rfI_all (m : Nat) : rfI (fl m.testBit 36) = refl6 m := ext36 (rfI_lt _ _ (by omega)) (refl6_lt m) fun j hj => by
  refine bool_of_iff ?_
  rw [rfI_bit m j hj 36 (Nat.le_refl _), bit_refl m j hj]
  exact ⟨fun h => h.2, fun h => ⟨neg6_lt j, h⟩⟩
theorem m6_sx : ∀ a : Nat, a < 6 → m6 (-(a : Int)) = sx 0 a := by decide
theorem neg6_xy (k : Nat) (hk : k < 36) : 6 * m6 (-((k / 6 : Nat) : Int)) + m6 (-((k % 6 : Nat) : Int)) = neg6 k := by
  rw [m6_sx _ (lt6x k), m6_sx _ (lt6y hk), Nat.add_comm]
  rfl
theorem mv_refl (m : Nat) : mvN m (fun k => m6 (-((k / 6 : Nat) : Int)) * 6 + m6 (-((k % 6 : Nat) : Int))) 36 = refl6 m :=
  ext36 (mvN_lt _ _ _ fun k hk => by have := neg6_xy k hk; have := neg6_lt k; show _ < 36; omega) (refl6_lt m) fun j hj => by
    refine bool_of_iff ?_
    rw [testBit_mvN, bit_refl m j hj]
    constructor
    · rintro ⟨k, hk, h1, h2⟩
      have e := neg6_xy k hk
      have : neg6 k = j := by rw [← h2, ← e, Nat.mul_comm]
      rw [← this, neg_neg6 hk]
      exact h1
    · intro h
      have e := neg6_xy (neg6 j) (neg6_lt j)
      rw [neg_neg6 hj] at e
      exact ⟨neg6 j, neg6_lt j, h, by rw [Nat.mul_comm]; exact e⟩
theorem sReflectSheet_bad (r : Nat → Int) (h : vs r = false) (w : World) : Calls Try.prog 163 #[(.agg #[.int .i64 (r 0), .int .i64 (r 1), .int .i64 (r 2), .int .i64 (r 3), .int .i64 (r 4), .int .i64 (r 5)])] w fun e w' => e = .returned (.tuple #[(.agg #[.int .i64 0, .int .i64 0, .int .i64 0, .int .i64 0, .int .i64 0, .int .i64 0]), .bool false]) ∧ Ext w w' := by
  have HT := Lib.hid (fun w => l2Sheet_is r _ h w)
  clear h
  skip
  go_enter Try.func163, Try.ntmps163
  go_wp2_with (go_at_call 106; refine (HT.out _).mono ?_; rintro e w1 ⟨rfl, hE⟩; replace HR := Lib.hid ((show Arr _ (w.heap.size + 1) (fun _ => 0) by first | exact HR.out | exact Arr.new _ (fun _ => 0) _ (by first | rfl | (simp; done) | (simp; omega))).ext hE (by first | exact lR | (simp; done) | (simp; omega))); replace lR : w.heap.size + 1 < w1.heap.size := Nat.lt_of_lt_of_le (by first | exact lR | (simp; done) | (simp; omega)) hE.size; (try clear d0 d1 d2 d3 d4 d5 f0 f1 f2 f3 f4 f5); obtain ⟨⟨d0, d1, d2, d3, d4, d5⟩, f0, f1, f2, f3, f4, f5⟩ := HR.out.all; replace k0_0 : w1.cell? ⟨w.heap.size, 0, none⟩ = some (.int .i64 (r 0)) := (hE.cells _ _ (by first | exact l0 | (simp; done) | (simp; omega))).trans (by first | exact k0_0 | (go_simp; done)); replace k0_1 : w1.cell? ⟨w.heap.size, 1, none⟩ = some (.int .i64 (r 1)) := (hE.cells _ _ (by first | exact l0 | (simp; done) | (simp; omega))).trans (by first | exact k0_1 | (go_simp; done)); replace k0_2 : w1.cell? ⟨w.heap.size, 2, none⟩ = some (.int .i64 (r 2)) := (hE.cells _ _ (by first | exact l0 | (simp; done) | (simp; omega))).trans (by first | exact k0_2 | (go_simp; done)); replace k0_3 : w1.cell? ⟨w.heap.size, 3, none⟩ = some (.int .i64 (r 3)) := (hE.cells _ _ (by first | exact l0 | (simp; done) | (simp; omega))).trans (by first | exact k0_3 | (go_simp; done)); replace k0_4 : w1.cell? ⟨w.heap.size, 4, none⟩ = some (.int .i64 (r 4)) := (hE.cells _ _ (by first | exact l0 | (simp; done) | (simp; omega))).trans (by first | exact k0_4 | (go_simp; done)); replace k0_5 : w1.cell? ⟨w.heap.size, 5, none⟩ = some (.int .i64 (r 5)) := (hE.cells _ _ (by first | exact l0 | (simp; done) | (simp; omega))).trans (by first | exact k0_5 | (go_simp; done)); replace l0 : w.heap.size < w1.heap.size := Nat.lt_of_lt_of_le (by first | exact l0 | (simp; done) | (simp; omega)) hE.size)
  exact bodyPost_ret (ret_cell_tmp rfl rfl rfl (load_sheet (HR.out.six (fun _ => 0)))) rfl ⟨rfl, (by (repeat' (first | (with_reducible exact Ext.refl _) | (with_reducible assumption) | (with_reducible refine Ext.alloc ?_ _) | (with_reducible refine Ext.drew ?_) | (with_reducible refine Ext.drewN ?_ _) | (with_reducible refine Ext.setCell ?_ ?_ _) | (with_reducible refine Ext.trans ?_ (by assumption)))) <;> (first | (with_reducible assumption) | omega | (simp; done) | (simp; omega)))⟩
theorem sReflectSheet_ok (m : Nat) (w : World) : Calls Try.prog 163 #[(.agg #[.int .i64 (rw m 0), .int .i64 (rw m 1), .int .i64 (rw m 2), .int .i64 (rw m 3), .int .i64 (rw m 4), .int .i64 (rw m 5)])] w fun e w' => e = .returned (.tuple #[(.agg #[.int .i64 (rw (refl6 m) 0), .int .i64 (rw (refl6 m) 1), .int .i64 (rw (refl6 m) 2), .int .i64 (rw (refl6 m) 3), .int .i64 (rw (refl6 m) 4), .int .i64 (rw (refl6 m) 5)]), .bool true]) ∧ Ext w w' := by
  have HL := Lib.hid (fun w => l2Cells_n m w)
  have hlen := fl_le m.testBit 36
  have HG := Lib.hid (fun i k (h : (fl m.testBit 36)[i]? = some k) => fl_lt h)
  rw [← rfI_all m]
  generalize fl m.testBit 36 = L at *
  skip
  go_enter Try.func163, Try.ntmps163
  go_wp2_with (first | (go_at_call 106; refine (l2Sheet_n m _).mono ?_; rintro e w1 ⟨rfl, hE⟩; replace HR := Lib.hid ((show Arr _ (w.heap.size + 1) (fun _ => 0) by first | exact HR.out | exact Arr.new _ (fun _ => 0) _ (by first | rfl | (simp; done) | (simp; omega))).ext hE (by first | exact lR | (simp; done) | (simp; omega))); replace lR : w.heap.size + 1 < w1.heap.size := Nat.lt_of_lt_of_le (by first | exact lR | (simp; done) | (simp; omega)) hE.size; (try clear d0 d1 d2 d3 d4 d5 f0 f1 f2 f3 f4 f5); obtain ⟨⟨d0, d1, d2, d3, d4, d5⟩, f0, f1, f2, f3, f4, f5⟩ := HR.out.all; replace HB := Lib.hid ((show Arr _ (w.heap.size) (rw m) by first | with_reducible exact HB.out | with_reducible exact Arr.ext HB.out ((Ext.refl _).alloc _) lHB | with_reducible exact Arr.ext HB.out (((Ext.refl _).alloc _).alloc _) lHB | with_reducible exact Arr.ext HB.out ((((Ext.refl _).alloc _).alloc _).alloc _) lHB | exact HB.out | exact Arr.new _ (rw m) _ (by first | rfl | (simp; done) | (simp; omega)) | exact (Arr.new _ (rw m) _ (by first | rfl | (simp; done) | (simp; omega))).ext ((Ext.refl _).alloc _) (by first | (simp; done) | (simp; omega)) | exact ((Arr.new _ (rw m) _ (by first | rfl | (simp; done) | (simp; omega))).ext ((Ext.refl _).alloc _) (by first | (simp; done) | (simp; omega))).ext ((Ext.refl _).alloc _) (by first | (simp; done) | (simp; omega)) | exact (((Arr.new _ (rw m) _ (by first | rfl | (simp; done) | (simp; omega))).ext ((Ext.refl _).alloc _) (by first | (simp; done) | (simp; omega))).ext ((Ext.refl _).alloc _) (by first | (simp; done) | (simp; omega))).ext ((Ext.refl _).alloc _) (by first | (simp; done) | (simp; omega))).ext hE (by first | exact lHB | (simp; done) | (simp; omega))); replace lHB : w.heap.size < w1.heap.size := Nat.lt_of_lt_of_le (by first | exact lHB | (simp; done) | (simp; omega)) hE.size; (try clear HB0 HB1 HB2 HB3 HB4 HB5); obtain ⟨⟨HB0, HB1, HB2, HB3, HB4, HB5⟩, _⟩ := HB.out.all) | (go_at_call 206; refine (HL.out _).mono ?_; rintro e w1 ⟨v, rfl, hE, ho⟩; skip; replace HR := Lib.hid ((show Arr _ (w.heap.size + 1) (fun _ => 0) by first | exact HR.out | exact Arr.new _ (fun _ => 0) _ (by first | rfl | (simp; done) | (simp; omega))).ext hE (by first | exact lR | (simp; done) | (simp; omega))); replace lR : w.heap.size + 1 < w1.heap.size := Nat.lt_of_lt_of_le (by first | exact lR | (simp; done) | (simp; omega)) hE.size; (try clear d0 d1 d2 d3 d4 d5 f0 f1 f2 f3 f4 f5); obtain ⟨⟨d0, d1, d2, d3, d4, d5⟩, f0, f1, f2, f3, f4, f5⟩ := HR.out.all; replace HB := Lib.hid ((show Arr _ (w.heap.size) (rw m) by first | with_reducible exact HB.out | with_reducible exact Arr.ext HB.out ((Ext.refl _).alloc _) lHB | with_reducible exact Arr.ext HB.out (((Ext.refl _).alloc _).alloc _) lHB | with_reducible exact Arr.ext HB.out ((((Ext.refl _).alloc _).alloc _).alloc _) lHB | exact HB.out | exact Arr.new _ (rw m) _ (by first | rfl | (simp; done) | (simp; omega)) | exact (Arr.new _ (rw m) _ (by first | rfl | (simp; done) | (simp; omega))).ext ((Ext.refl _).alloc _) (by first | (simp; done) | (simp; omega)) | exact ((Arr.new _ (rw m) _ (by first | rfl | (simp; done) | (simp; omega))).ext ((Ext.refl _).alloc _) (by first | (simp; done) | (simp; omega))).ext ((Ext.refl _).alloc _) (by first | (simp; done) | (simp; omega)) | exact (((Arr.new _ (rw m) _ (by first | rfl | (simp; done) | (simp; omega))).ext ((Ext.refl _).alloc _) (by first | (simp; done) | (simp; omega))).ext ((Ext.refl _).alloc _) (by first | (simp; done) | (simp; omega))).ext ((Ext.refl _).alloc _) (by first | (simp; done) | (simp; omega))).ext hE (by first | exact lHB | (simp; done) | (simp; omega))); replace lHB : w.heap.size < w1.heap.size := Nat.lt_of_lt_of_le (by first | exact lHB | (simp; done) | (simp; omega)) hE.size; (try clear HB0 HB1 HB2 HB3 HB4 HB5); obtain ⟨⟨HB0, HB1, HB2, HB3, HB4, HB5⟩, _⟩ := HB.out.all; obtain ⟨ao, cap, rfl, hsh⟩ := own_shape ho; have HO := Lib.hid ho; clear ho; have hx0 : Ext w w1 := (by (repeat' (first | (with_reducible exact Ext.refl _) | (with_reducible assumption) | (with_reducible refine Ext.alloc ?_ _) | (with_reducible refine Ext.drew ?_) | (with_reducible refine Ext.drewN ?_ _) | (with_reducible refine Ext.setCell ?_ ?_ _) | (with_reducible refine Ext.trans ?_ (by assumption)))) <;> (first | (with_reducible assumption) | omega | (simp; done) | (simp; omega))); obtain ⟨wa, rfl⟩ : ∃ x, x = w1 := ⟨_, rfl⟩))
  skip
  obtain ⟨b, hb⟩ : ∃ b, b = wa.heap.size := ⟨_, rfl⟩
  rw [← hb]
  have HQ := Lib.hid hb
  have hbz : wa.heap.size ≤ b := by omega
  clear hb
  go_loopw [6] (fun i wr => ∃ j : Nat, j ≤ L.length ∧ i = .int .i64 j ∧ Ext wa wr ∧ Arr wr (w.heap.size + 1) (fun _ => 0) ∧ Arr wr b (rw (rfI (L.take j))) ∧ b < wr.heap.size) (fun i _ => L.length - (intOf i).toNat)
  case atStart =>
    refine ⟨0, Nat.zero_le _, rfl, (by (repeat' (first | (with_reducible exact Ext.refl _) | (with_reducible assumption) | (with_reducible refine Ext.alloc ?_ _) | (with_reducible refine Ext.drew ?_) | (with_reducible refine Ext.drewN ?_ _) | (with_reducible refine Ext.setCell ?_ ?_ _) | (with_reducible refine Ext.trans ?_ (by assumption)))) <;> (first | (with_reducible assumption) | omega | (simp; done) | (simp; omega))), HR.out.alloc _ lR, ?_, by have := HQ.out; simp; omega⟩
    exact (Arr.new0 wa 26 HQ.out).congr fun j _ => (show (0 : Int) = rw 0 j by rw [rw_nat]; unfold rowN; rw [Nat.zero_div]; rfl)
  case round =>
    obtain ⟨j, hj, rfl, hx, hr, ht, hz⟩ := hrel
    obtain ⟨wo, rfl⟩ : ∃ wo : World, wo = wr := ⟨_, rfl⟩
    clear HB HR HB0 HB1 HB2 HB3 HB4 HB5 d0 d1 d2 d3 d4 d5 f0 f1 f2 f3 f4 f5
    have HR := Lib.hid hr
    have HT := Lib.hid ht
    clear hr ht
    have hsz := hx.size
    have zr : w.heap.size + 1 < wo.heap.size := by omega
    by_cases hlt : j < L.length
    · obtain ⟨vb, rfl, _, hvb⟩ := hsh (by omega)
      obtain ⟨k, hk⟩ : ∃ k, L[j]? = some k := ⟨L[j], List.getElem?_eq_getElem hlt⟩
      have hk36 := HG.out j k hk
      have p1 := ((own_ext HO.out hx).cellAt (j * 2) (by omega)).trans (pxy_get L j k hk).1
      have p2 := ((own_ext HO.out hx).cellAt (j * 2 + 1) (by omega)).trans (pxy_get L j k hk).2
      have zv : vb < wo.heap.size := by omega
      obtain ⟨⟨t0, t1, t2, t3, t4, t5⟩, _⟩ := HT.out.all
      have H2 := Lib.hid (fun w => l2Flip_n (rfI (L.take j)) (m6 (-((k % 6 : Nat) : Int))) (m6 (-((k / 6 : Nat) : Int))) (m6_lt _) (m6_lt _) w)
      have HS := Lib.hid (rfI_step L j k hk)
      rw [neg6_xy k hk36, ← HS.out] at H2
      clear hk
      have hkx : k % 6 < 6 := by omega
      have hky : k / 6 < 6 := by omega
      have M1 := Lib.hid (fun w => l2Mod_any (-((k % 6 : Nat) : Int)) w)
      have M2 := Lib.hid (fun w => l2Mod_any (-((k / 6 : Nat) : Int)) w)
      generalize k % 6 = kx at *
      generalize k / 6 = ky at *
      generalize m6 (-(kx : Int)) = mx at *
      generalize m6 (-(ky : Int)) = my at *
      go_wp2
      refine wp_calm 16 0 (fun _ => (#[], 0)) (by kernel_rfl) (by kernel_rfl) ?_; simp only [List.take_succ_cons, List.take_zero, List.drop_succ_cons, List.drop_zero]; intro hgr; (refine walkQ_step (fun K hK => ?_); go_simp; (try (go_ints; try go_simp)); first | (refine hK _ ?_; clear hK K) | (apply Exists.intro; refine ⟨fun _ => ?_, hK _ ?_⟩; (first | (go_at_call 191; exact calm_same (M1.out _)) | (go_at_call 191; exact calm_same (M2.out _)) | (go_at_call 214; exact (H2.out _))); clear hK K) | (simp only [↓IntWalk.iteOmega]; (try go_simp); (try (go_ints; try go_simp)); first | (refine hK _ ?_; clear hK K) | (apply Exists.intro; refine ⟨fun _ => ?_, hK _ ?_⟩; (first | (go_at_call 191; exact calm_same (M1.out _)) | (go_at_call 191; exact calm_same (M2.out _)) | (go_at_call 214; exact (H2.out _))); clear hK K))); (refine walkQ_step (fun K hK => ?_); go_simp; (try (go_ints; try go_simp)); first | (refine hK _ ?_; clear hK K) | (apply Exists.intro; refine ⟨fun _ => ?_, hK _ ?_⟩; (first | (go_at_call 191; exact calm_same (M1.out _)) | (go_at_call 191; exact calm_same (M2.out _)) | (go_at_call 214; exact (H2.out _))); clear hK K) | (simp only [↓IntWalk.iteOmega]; (try go_simp); (try (go_ints; try go_simp)); first | (refine hK _ ?_; clear hK K) | (apply Exists.intro; refine ⟨fun _ => ?_, hK _ ?_⟩; (first | (go_at_call 191; exact calm_same (M1.out _)) | (go_at_call 191; exact calm_same (M2.out _)) | (go_at_call 214; exact (H2.out _))); clear hK K))); (refine walkQ_step (fun K hK => ?_); go_simp; (try (go_ints; try go_simp)); first | (refine hK _ ?_; clear hK K) | (apply Exists.intro; refine ⟨fun _ => ?_, hK _ ?_⟩; (first | (go_at_call 191; exact calm_same (M1.out _)) | (go_at_call 191; exact calm_same (M2.out _)) | (go_at_call 214; exact (H2.out _))); clear hK K) | (simp only [↓IntWalk.iteOmega]; (try go_simp); (try (go_ints; try go_simp)); first | (refine hK _ ?_; clear hK K) | (apply Exists.intro; refine ⟨fun _ => ?_, hK _ ?_⟩; (first | (go_at_call 191; exact calm_same (M1.out _)) | (go_at_call 191; exact calm_same (M2.out _)) | (go_at_call 214; exact (H2.out _))); clear hK K))); (refine walkQ_step (fun K hK => ?_); go_simp; (try (go_ints; try go_simp)); first | (refine hK _ ?_; clear hK K) | (apply Exists.intro; refine ⟨fun _ => ?_, hK _ ?_⟩; (first | (go_at_call 191; exact calm_same (M1.out _)) | (go_at_call 191; exact calm_same (M2.out _)) | (go_at_call 214; exact (H2.out _))); clear hK K) | (simp only [↓IntWalk.iteOmega]; (try go_simp); (try (go_ints; try go_simp)); first | (refine hK _ ?_; clear hK K) | (apply Exists.intro; refine ⟨fun _ => ?_, hK _ ?_⟩; (first | (go_at_call 191; exact calm_same (M1.out _)) | (go_at_call 191; exact calm_same (M2.out _)) | (go_at_call 214; exact (H2.out _))); clear hK K))); (refine walkQ_step (fun K hK => ?_); go_simp; (try (go_ints; try go_simp)); first | (refine hK _ ?_; clear hK K) | (apply Exists.intro; refine ⟨fun _ => ?_, hK _ ?_⟩; (first | (go_at_call 191; exact calm_same (M1.out _)) | (go_at_call 191; exact calm_same (M2.out _)) | (go_at_call 214; exact (H2.out _))); clear hK K) | (simp only [↓IntWalk.iteOmega]; (try go_simp); (try (go_ints; try go_simp)); first | (refine hK _ ?_; clear hK K) | (apply Exists.intro; refine ⟨fun _ => ?_, hK _ ?_⟩; (first | (go_at_call 191; exact calm_same (M1.out _)) | (go_at_call 191; exact calm_same (M2.out _)) | (go_at_call 214; exact (H2.out _))); clear hK K))); (refine walkQ_step (fun K hK => ?_); go_simp; (try (go_ints; try go_simp)); first | (refine hK _ ?_; clear hK K) | (apply Exists.intro; refine ⟨fun _ => ?_, hK _ ?_⟩; (first | (go_at_call 191; exact calm_same (M1.out _)) | (go_at_call 191; exact calm_same (M2.out _)) | (go_at_call 214; exact (H2.out _))); clear hK K) | (simp only [↓IntWalk.iteOmega]; (try go_simp); (try (go_ints; try go_simp)); first | (refine hK _ ?_; clear hK K) | (apply Exists.intro; refine ⟨fun _ => ?_, hK _ ?_⟩; (first | (go_at_call 191; exact calm_same (M1.out _)) | (go_at_call 191; exact calm_same (M2.out _)) | (go_at_call 214; exact (H2.out _))); clear hK K))); (refine walkQ_step (fun K hK => ?_); go_simp; (try (go_ints; try go_simp)); first | (refine hK _ ?_; clear hK K) | (apply Exists.intro; refine ⟨fun _ => ?_, hK _ ?_⟩; (first | (go_at_call 191; exact calm_same (M1.out _)) | (go_at_call 191; exact calm_same (M2.out _)) | (go_at_call 214; exact (H2.out _))); clear hK K) | (simp only [↓IntWalk.iteOmega]; (try go_simp); (try (go_ints; try go_simp)); first | (refine hK _ ?_; clear hK K) | (apply Exists.intro; refine ⟨fun _ => ?_, hK _ ?_⟩; (first | (go_at_call 191; exact calm_same (M1.out _)) | (go_at_call 191; exact calm_same (M2.out _)) | (go_at_call 214; exact (H2.out _))); clear hK K))); (refine walkQ_step (fun K hK => ?_); go_simp; (try (go_ints; try go_simp)); first | (refine hK _ ?_; clear hK K) | (apply Exists.intro; refine ⟨fun _ => ?_, hK _ ?_⟩; (first | (go_at_call 191; exact calm_same (M1.out _)) | (go_at_call 191; exact calm_same (M2.out _)) | (go_at_call 214; exact (H2.out _))); clear hK K) | (simp only [↓IntWalk.iteOmega]; (try go_simp); (try (go_ints; try go_simp)); first | (refine hK _ ?_; clear hK K) | (apply Exists.intro; refine ⟨fun _ => ?_, hK _ ?_⟩; (first | (go_at_call 191; exact calm_same (M1.out _)) | (go_at_call 191; exact calm_same (M2.out _)) | (go_at_call 214; exact (H2.out _))); clear hK K))); (refine walkQ_step (fun K hK => ?_); go_simp; (try (go_ints; try go_simp)); first | (refine hK _ ?_; clear hK K) | (apply Exists.intro; refine ⟨fun _ => ?_, hK _ ?_⟩; (first | (go_at_call 191; exact calm_same (M1.out _)) | (go_at_call 191; exact calm_same (M2.out _)) | (go_at_call 214; exact (H2.out _))); clear hK K) | (simp only [↓IntWalk.iteOmega]; (try go_simp); (try (go_ints; try go_simp)); first | (refine hK _ ?_; clear hK K) | (apply Exists.intro; refine ⟨fun _ => ?_, hK _ ?_⟩; (first | (go_at_call 191; exact calm_same (M1.out _)) | (go_at_call 191; exact calm_same (M2.out _)) | (go_at_call 214; exact (H2.out _))); clear hK K))); (refine walkQ_step (fun K hK => ?_); go_simp; (try (go_ints; try go_simp)); first | (refine hK _ ?_; clear hK K) | (apply Exists.intro; refine ⟨fun _ => ?_, hK _ ?_⟩; (first | (go_at_call 191; exact calm_same (M1.out _)) | (go_at_call 191; exact calm_same (M2.out _)) | (go_at_call 214; exact (H2.out _))); clear hK K) | (simp only [↓IntWalk.iteOmega]; (try go_simp); (try (go_ints; try go_simp)); first | (refine hK _ ?_; clear hK K) | (apply Exists.intro; refine ⟨fun _ => ?_, hK _ ?_⟩; (first | (go_at_call 191; exact calm_same (M1.out _)) | (go_at_call 191; exact calm_same (M2.out _)) | (go_at_call 214; exact (H2.out _))); clear hK K))); (refine walkQ_step (fun K hK => ?_); go_simp; (try (go_ints; try go_simp)); first | (refine hK _ ?_; clear hK K) | (apply Exists.intro; refine ⟨fun _ => ?_, hK _ ?_⟩; (first | (go_at_call 191; exact calm_same (M1.out _)) | (go_at_call 191; exact calm_same (M2.out _)) | (go_at_call 214; exact (H2.out _))); clear hK K) | (simp only [↓IntWalk.iteOmega]; (try go_simp); (try (go_ints; try go_simp)); first | (refine hK _ ?_; clear hK K) | (apply Exists.intro; refine ⟨fun _ => ?_, hK _ ?_⟩; (first | (go_at_call 191; exact calm_same (M1.out _)) | (go_at_call 191; exact calm_same (M2.out _)) | (go_at_call 214; exact (H2.out _))); clear hK K))); (refine walkQ_step (fun K hK => ?_); go_simp; (try (go_ints; try go_simp)); first | (refine hK _ ?_; clear hK K) | (apply Exists.intro; refine ⟨fun _ => ?_, hK _ ?_⟩; (first | (go_at_call 191; exact calm_same (M1.out _)) | (go_at_call 191; exact calm_same (M2.out _)) | (go_at_call 214; exact (H2.out _))); clear hK K) | (simp only [↓IntWalk.iteOmega]; (try go_simp); (try (go_ints; try go_simp)); first | (refine hK _ ?_; clear hK K) | (apply Exists.intro; refine ⟨fun _ => ?_, hK _ ?_⟩; (first | (go_at_call 191; exact calm_same (M1.out _)) | (go_at_call 191; exact calm_same (M2.out _)) | (go_at_call 214; exact (H2.out _))); clear hK K))); (refine walkQ_step (fun K hK => ?_); go_simp; (try (go_ints; try go_simp)); first | (refine hK _ ?_; clear hK K) | (apply Exists.intro; refine ⟨fun _ => ?_, hK _ ?_⟩; (first | (go_at_call 191; exact calm_same (M1.out _)) | (go_at_call 191; exact calm_same (M2.out _)) | (go_at_call 214; exact (H2.out _))); clear hK K) | (simp only [↓IntWalk.iteOmega]; (try go_simp); (try (go_ints; try go_simp)); first | (refine hK _ ?_; clear hK K) | (apply Exists.intro; refine ⟨fun _ => ?_, hK _ ?_⟩; (first | (go_at_call 191; exact calm_same (M1.out _)) | (go_at_call 191; exact calm_same (M2.out _)) | (go_at_call 214; exact (H2.out _))); clear hK K))); (refine walkQ_step (fun K hK => ?_); go_simp; (try (go_ints; try go_simp)); first | (refine hK _ ?_; clear hK K) | (apply Exists.intro; refine ⟨fun _ => ?_, hK _ ?_⟩; (first | (go_at_call 191; exact calm_same (M1.out _)) | (go_at_call 191; exact calm_same (M2.out _)) | (go_at_call 214; exact (H2.out _))); clear hK K) | (simp only [↓IntWalk.iteOmega]; (try go_simp); (try (go_ints; try go_simp)); first | (refine hK _ ?_; clear hK K) | (apply Exists.intro; refine ⟨fun _ => ?_, hK _ ?_⟩; (first | (go_at_call 191; exact calm_same (M1.out _)) | (go_at_call 191; exact calm_same (M2.out _)) | (go_at_call 214; exact (H2.out _))); clear hK K))); (refine walkQ_step (fun K hK => ?_); go_simp; (try (go_ints; try go_simp)); first | (refine hK _ ?_; clear hK K) | (apply Exists.intro; refine ⟨fun _ => ?_, hK _ ?_⟩; (first | (go_at_call 191; exact calm_same (M1.out _)) | (go_at_call 191; exact calm_same (M2.out _)) | (go_at_call 214; exact (H2.out _))); clear hK K) | (simp only [↓IntWalk.iteOmega]; (try go_simp); (try (go_ints; try go_simp)); first | (refine hK _ ?_; clear hK K) | (apply Exists.intro; refine ⟨fun _ => ?_, hK _ ?_⟩; (first | (go_at_call 191; exact calm_same (M1.out _)) | (go_at_call 191; exact calm_same (M2.out _)) | (go_at_call 214; exact (H2.out _))); clear hK K))); (refine walkQ_step (fun K hK => ?_); go_simp; (try (go_ints; try go_simp)); first | (refine hK _ ?_; clear hK K) | (apply Exists.intro; refine ⟨fun _ => ?_, hK _ ?_⟩; (first | (go_at_call 191; exact calm_same (M1.out _)) | (go_at_call 191; exact calm_same (M2.out _)) | (go_at_call 214; exact (H2.out _))); clear hK K) | (simp only [↓IntWalk.iteOmega]; (try go_simp); (try (go_ints; try go_simp)); first | (refine hK _ ?_; clear hK K) | (apply Exists.intro; refine ⟨fun _ => ?_, hK _ ?_⟩; (first | (go_at_call 191; exact calm_same (M1.out _)) | (go_at_call 191; exact calm_same (M2.out _)) | (go_at_call 214; exact (H2.out _))); clear hK K))); refine walkQ_nil ?_; clear hgr; refine walkF_nil ?_; intro w1 hE _; have hc2 := hE.cells; have hf2 := hE.frees; have hz2 := hE.size
      replace hE : Ext wo w1 := ((Ext.refl wo).drew).trans hE
      have hs := hE.size
      have HT1 := Lib.hid (HT.out.ext hE hz)
      obtain ⟨⟨u0, u1, u2, u3, u4, u5⟩, g0, g1, g2, g3, g4, g5⟩ := HT1.out.all
      go_wp2
      refine ⟨⟨j + 1, by omega, by go_num, (by (repeat' (first | (with_reducible exact Ext.refl _) | (with_reducible assumption) | (with_reducible refine Ext.alloc ?_ _) | (with_reducible refine Ext.drew ?_) | (with_reducible refine Ext.drewN ?_ _) | (with_reducible refine Ext.setCell ?_ ?_ _) | (with_reducible refine Ext.trans ?_ (by assumption)))) <;> (first | (with_reducible assumption) | omega | (simp; done) | (simp; omega))), ?_, HT1.out.six _, by simp; omega⟩, by simp [intOf]; omega⟩
      exact ((((((HR.out.ext hE zr).far (by dsimp only; omega) _).far (by dsimp only; omega) _).far (by dsimp only; omega) _).far (by dsimp only; omega) _).far (by dsimp only; omega) _).far (by dsimp only; omega) _
    · obtain rfl : j = L.length := by omega
      rw [List.take_of_length_le (Nat.le_refl _)] at HT
      obtain ⟨⟨c0, c1, c2, c3, c4, c5⟩, _⟩ := HT.out.all
      obtain ⟨⟨d0, d1, d2, d3, d4, d5⟩, f0, f1, f2, f3, f4, f5⟩ := HR.out.all
      go_wp2
      exact bodyPost_ret (ret_cell_tmp rfl rfl rfl (load_sheet (HR.out.six (rw (rfI L))))) rfl ⟨rfl, (by (repeat' (first | (with_reducible exact Ext.refl _) | (with_reducible assumption) | (with_reducible refine Ext.alloc ?_ _) | (with_reducible refine Ext.drew ?_) | (with_reducible refine Ext.drewN ?_ _) | (with_reducible refine Ext.setCell ?_ ?_ _) | (with_reducible refine Ext.trans ?_ (by assumption)))) <;> (first | (with_reducible assumption) | omega | (simp; done) | (simp; omega)))⟩
end Go.Proofs.Ytadnfocbfabjnaa
