/- ApartS FTld Kp: contracts of functions, and lemmas, for this seat. Conditions: as each states. -/
import Derived.Test.YtlifhoajamnehaaTd17
import Derived.Test.YtlifhoajamnehaaTd16
import Derived.Test.YtlifhoajamnehaaTd05
import Derived.Test.YtlifhoajamnehaaTd09
import Derived.Test.YtlifhoajamnehaaTd08
import Derived.Test.YtlifhoajamnehaaTd12
import Derived.Test.YtlifhoajamnehaaTd18
import Derived.Test.YtlifhoajamnehaaTd13
import Derived.Test.YtlifhoajamnehaaTd01
set_option linter.unusedVariables false
set_option linter.unusedSimpArgs false
set_option maxRecDepth 100000
set_option maxHeartbeats 4000000
namespace Go.Proofs.Ytlifhoajamnehaa
open Go Go.RowKit Instr
theorem l1Most_any (x y : Nat) (w : World) : Calls Try.prog 148 #[.int .i64 (x : Int), .int .i64 (y : Int)] w fun e w' => e = .returned (.int .i64 (max x y : Nat)) ∧ w = w' := by
  by_cases h : y < x
  · have hm : max x y = x := by omega
    rw [hm]
    go_enter Try.func148, Try.ntmps148
    go_wp2
    go_returns
    exact ⟨rfl, rfl⟩
  · have hm : max x y = y := by omega
    rw [hm]
    go_enter Try.func148, Try.ntmps148
    go_wp2
    go_returns
    exact ⟨rfl, rfl⟩
theorem aT_drop (f : Nat → Nat) (z : Nat) (L : List Nat) (i k : Nat) (h : L[i]? = some k) : aT f (L.drop i) z = max (aT f (L.drop (i + 1)) z) (if prt (f k) z then 1 + aT f (L.drop (i + 1)) (mns z (f k)) else 0) := by
  have hi := (List.getElem?_eq_some_iff.1 h)
  rw [List.drop_eq_getElem_cons hi.1, hi.2]; rfl
theorem l6Apart_n (n : Nat) (hn : n < 68719476736) : ∀ (N : Nat) (L : List Nat), L.length < N → (∀ (i k : Nat), L[i]? = some k → k < 36) → L.length ≤ 36 → ∀ (z : Nat), z < 68719476736 → ∀ (v : Value) (w : World), RawL w v L →
    Calls Try.prog 134 #[(.agg #[.int .i64 (rw n 0), .int .i64 (rw n 1), .int .i64 (rw n 2), .int .i64 (rw n 3), .int .i64 (rw n 4), .int .i64 (rw n 5)]), (.agg #[.int .i64 (rw z 0), .int .i64 (rw z 1), .int .i64 (rw z 2), .int .i64 (rw z 3), .int .i64 (rw z 4), .int .i64 (rw z 5)]), v] w fun e w' => e = .returned (.int .i64 (aT (pr6 n) L z : Nat)) ∧ Ext w w'
  | 0, L, hN, _, _, _, _, _, _, _ => absurd hN (Nat.not_lt_zero _)
  | N + 1, L, hN, hG, hlen, z, hz, v, w, hr => by
    have IH := Lib.hid (l6Apart_n n hn N)
    have hf := pr6_lt n
    obtain ⟨ao, cap, rfl, hcap, hsh⟩ := hr
    have HS := Lib.hid hsh
    have HG := Lib.hid hG
    clear hG hsh
    have hbd : ∀ i y, aT (pr6 n) (L.drop i) y ≤ 36 := fun i y => Nat.le_trans (aT_le _ _ _) (by rw [List.length_drop]; omega)
    skip
    go_enter Try.func134, Try.ntmps134
    go_wp2
    go_loopw [7, 8] (fun m i wr => ∃ j M : Nat, j ≤ L.length ∧ M ≤ 37 ∧ i = .int .i64 j ∧ m = .int .i64 (M : Int) ∧ max M (aT (pr6 n) (L.drop j) z) = aT (pr6 n) L z ∧ Ext w wr ∧ Arr wr w.heap.size (rw n) ∧ Arr wr (w.heap.size + 1) (rw z) ∧ w.heap.size + 1 < wr.heap.size) (fun _ i _ => L.length - (intOf i).toNat)
    case atStart => exact ⟨0, 0, Nat.zero_le _, by omega, rfl, rfl, by rw [List.drop_zero]; omega, (by (repeat' (first | (with_reducible exact Ext.refl _) | (with_reducible assumption) | (with_reducible refine Ext.alloc ?_ _) | (with_reducible refine Ext.drew ?_) | (with_reducible refine Ext.drewN ?_ _) | (with_reducible refine Ext.setCell ?_ ?_ _) | (with_reducible refine Ext.trans ?_ (by assumption)))) <;> (first | (with_reducible assumption) | omega | (simp; done) | (simp; omega))), (Arr.new w (rw n) _ rfl).alloc _ (by simp), Arr.new _ (rw z) _ (by simp), by simp⟩
    case round =>
      obtain ⟨j, M, hj, hM, rfl, rfl, hmx, hx, ha, hb, hz2⟩ := hrel
      obtain ⟨wo, rfl⟩ : ∃ wo : World, wo = wr := ⟨_, rfl⟩
      have HM := Lib.hid hmx
      have HA := Lib.hid ha
      have HB := Lib.hid hb
      clear hmx ha hb
      have za : w.heap.size < wo.heap.size := by omega
      by_cases hlt : j < L.length
      · obtain ⟨b, o, rfl, hbw, hcl⟩ := HS.out (by omega)
        obtain ⟨k, hk⟩ : ∃ k, L[j]? = some k := ⟨L[j], List.getElem?_eq_getElem hlt⟩
        have hk36 := HG.out j k hk
        have hsz := hx.size
        have hvo : b < wo.heap.size := by omega
        have p1 := (hx.cells _ _ hbw).trans (hcl j k hk).1
        have p2 := (hx.cells _ _ hbw).trans (hcl j k hk).2
        have HC := Lib.hid hcl
        have HD := Lib.hid (aT_drop (pr6 n) z L j k hk)
        have hK := hf k
        have HT := Lib.hid (show ∀ w, Calls Try.prog 154 #[(.agg #[.int .i64 (rw n 0), .int .i64 (rw n 1), .int .i64 (rw n 2), .int .i64 (rw n 3), .int .i64 (rw n 4), .int .i64 (rw n 5)]), (.agg #[.int .i64 (((k % 6 : Nat) : Int)), .int .i64 (((k / 6 : Nat) : Int))])] w fun e w' => e = .returned (.agg #[.int .i64 (rw (pr6 n k) 0), .int .i64 (rw (pr6 n k) 1), .int .i64 (rw (pr6 n k) 2), .int .i64 (rw (pr6 n k) 3), .int .i64 (rw (pr6 n k) 4), .int .i64 (rw (pr6 n k) 5)]) ∧ Ext w w' from fun w => l2At_n n (k % 6) (k / 6) (by omega) (by omega) w)
        have HP := Lib.hid (fun c (hc : prt (pr6 n k) z = c) w => l2Part_n (pr6 n k) z hK c hc w)
        obtain ⟨⟨c0, c1, c2, c3, c4, c5⟩, _⟩ := HA.out.all
        obtain ⟨⟨e0, e1, e2, e3, e4, e5⟩, _⟩ := HB.out.all
        have hTb := hbd (j + 1) (mns z (pr6 n k))
        clear hcl hk
        generalize k % 6 = kx at *
        generalize k / 6 = ky at *
        skip
        go_wp2
        refine wp_perm [(0, true), (1, true), (2, true), (3, true), (4, true), (5, true), (6, false), (7, false)] [] (by kernel_rfl) (by kernel_rfl) ?_; simp only [pickO, pickT, List.getElem?_cons_succ, List.getElem?_cons_zero]; intro hgr; (refine walkP_step (fun K hK => ?_); go_simp; (try (go_ints; try go_simp)); first | (refine hK _ ?_; clear hK K) | (apply Exists.intro; refine ⟨fun _ => ?_, hK _ ?_⟩; ((go_at_call 154; exact (HT.out _))); clear hK K) | (simp only [↓IntWalk.iteOmega]; (try go_simp); (try (go_ints; try go_simp)); first | (refine hK _ ?_; clear hK K) | (apply Exists.intro; refine ⟨fun _ => ?_, hK _ ?_⟩; ((go_at_call 154; exact (HT.out _))); clear hK K))); (refine walkP_step (fun K hK => ?_); go_simp; (try (go_ints; try go_simp)); first | (refine hK _ ?_; clear hK K) | (apply Exists.intro; refine ⟨fun _ => ?_, hK _ ?_⟩; ((go_at_call 154; exact (HT.out _))); clear hK K) | (simp only [↓IntWalk.iteOmega]; (try go_simp); (try (go_ints; try go_simp)); first | (refine hK _ ?_; clear hK K) | (apply Exists.intro; refine ⟨fun _ => ?_, hK _ ?_⟩; ((go_at_call 154; exact (HT.out _))); clear hK K))); (refine walkP_step (fun K hK => ?_); go_simp; (try (go_ints; try go_simp)); first | (refine hK _ ?_; clear hK K) | (apply Exists.intro; refine ⟨fun _ => ?_, hK _ ?_⟩; ((go_at_call 154; exact (HT.out _))); clear hK K) | (simp only [↓IntWalk.iteOmega]; (try go_simp); (try (go_ints; try go_simp)); first | (refine hK _ ?_; clear hK K) | (apply Exists.intro; refine ⟨fun _ => ?_, hK _ ?_⟩; ((go_at_call 154; exact (HT.out _))); clear hK K))); (refine walkP_step (fun K hK => ?_); go_simp; (try (go_ints; try go_simp)); first | (refine hK _ ?_; clear hK K) | (apply Exists.intro; refine ⟨fun _ => ?_, hK _ ?_⟩; ((go_at_call 154; exact (HT.out _))); clear hK K) | (simp only [↓IntWalk.iteOmega]; (try go_simp); (try (go_ints; try go_simp)); first | (refine hK _ ?_; clear hK K) | (apply Exists.intro; refine ⟨fun _ => ?_, hK _ ?_⟩; ((go_at_call 154; exact (HT.out _))); clear hK K))); (refine walkP_step (fun K hK => ?_); go_simp; (try (go_ints; try go_simp)); first | (refine hK _ ?_; clear hK K) | (apply Exists.intro; refine ⟨fun _ => ?_, hK _ ?_⟩; ((go_at_call 154; exact (HT.out _))); clear hK K) | (simp only [↓IntWalk.iteOmega]; (try go_simp); (try (go_ints; try go_simp)); first | (refine hK _ ?_; clear hK K) | (apply Exists.intro; refine ⟨fun _ => ?_, hK _ ?_⟩; ((go_at_call 154; exact (HT.out _))); clear hK K))); (refine walkP_step (fun K hK => ?_); go_simp; (try (go_ints; try go_simp)); first | (refine hK _ ?_; clear hK K) | (apply Exists.intro; refine ⟨fun _ => ?_, hK _ ?_⟩; ((go_at_call 154; exact (HT.out _))); clear hK K) | (simp only [↓IntWalk.iteOmega]; (try go_simp); (try (go_ints; try go_simp)); first | (refine hK _ ?_; clear hK K) | (apply Exists.intro; refine ⟨fun _ => ?_, hK _ ?_⟩; ((go_at_call 154; exact (HT.out _))); clear hK K))); refine walkP_new (#[.int .i64 0, .int .i64 0, .int .i64 0, .int .i64 0, .int .i64 0, .int .i64 0], 26) rfl (fun W' => by go_simp) (fun v => ?_); refine walkP_fill rfl (fill_store (cs := #[.int .i64 (rw (pr6 n k) 0), .int .i64 (rw (pr6 n k) 1), .int .i64 (rw (pr6 n k) 2), .int .i64 (rw (pr6 n k) 3), .int .i64 (rw (pr6 n k) 4), .int .i64 (rw (pr6 n k) 5)]) rfl rfl rfl rfl (by kernel_rfl) (by simp [Value.oneCell'])) ?_; refine walkP_nil ?_; clear hgr; intro w1 hE hF; obtain ⟨_, bK, rfl, hb, hR⟩ := hF; have k0_0 : w1.cell? ⟨bK, 0, none⟩ = some (.int .i64 (rw (pr6 n k) 0)) := row_cell hR 0; have k0_1 : w1.cell? ⟨bK, 1, none⟩ = some (.int .i64 (rw (pr6 n k) 1)) := row_cell hR 1; have k0_2 : w1.cell? ⟨bK, 2, none⟩ = some (.int .i64 (rw (pr6 n k) 2)) := row_cell hR 2; have k0_3 : w1.cell? ⟨bK, 3, none⟩ = some (.int .i64 (rw (pr6 n k) 3)) := row_cell hR 3; have k0_4 : w1.cell? ⟨bK, 4, none⟩ = some (.int .i64 (rw (pr6 n k) 4)) := row_cell hR 4; have k0_5 : w1.cell? ⟨bK, 5, none⟩ = some (.int .i64 (rw (pr6 n k) 5)) := row_cell hR 5; have l0 : bK < w1.heap.size := row_lt hR; clear hR hb
        replace hE : Ext wo w1 := ((Ext.refl wo).drew).trans hE
        have hs1 := hE.size
        have HA1 := Lib.hid (HA.out.ext hE za)
        have HB1 := Lib.hid (HB.out.ext hE hz2)
        obtain ⟨⟨a0, a1, a2, a3, a4, a5⟩, _⟩ := HA1.out.all
        obtain ⟨⟨b0, b1, b2, b3, b4, b5⟩, _⟩ := HB1.out.all
        have hx1 := hx.trans hE
        clear c0 c1 c2 c3 c4 c5 e0 e1 e2 e3 e4 e5 HA HB p1 p2 HT hE
        obtain ⟨wp, rfl⟩ : ∃ x, x = w1 := ⟨_, rfl⟩
        have ya : w.heap.size < wp.heap.size := by omega
        have yb : w.heap.size + 1 < wp.heap.size := by omega
        cases h2 : prt (pr6 n k) z
        · rw [h2] at HD
          have HP2 := Lib.hid (HP.out _ h2)
          have HM2 := Lib.hid (show max M (aT (pr6 n) (L.drop (j + 1)) z) = aT (pr6 n) L z by rw [← HM.out, HD.out]; simp)
          clear h2 HD HM HP
          go_wp2_with (go_at_call 155; refine (HP2.out _).mono ?_; rintro e w1 ⟨rfl, hE⟩)
          refine ⟨⟨j + 1, M, by omega, hM, by go_num, rfl, HM2.out, (by (repeat' (first | (with_reducible exact Ext.refl _) | (with_reducible assumption) | (with_reducible refine Ext.alloc ?_ _) | (with_reducible refine Ext.drew ?_) | (with_reducible refine Ext.drewN ?_ _) | (with_reducible refine Ext.setCell ?_ ?_ _) | (with_reducible refine Ext.trans ?_ (by assumption)))) <;> (first | (with_reducible assumption) | omega | (simp; done) | (simp; omega))), HA1.out.ext ((by (repeat' (first | (with_reducible exact Ext.refl _) | (with_reducible assumption) | (with_reducible refine Ext.alloc ?_ _) | (with_reducible refine Ext.drew ?_) | (with_reducible refine Ext.drewN ?_ _) | (with_reducible refine Ext.setCell ?_ ?_ _) | (with_reducible refine Ext.trans ?_ (by assumption)))) <;> (first | (with_reducible assumption) | omega | (simp; done) | (simp; omega))) : Ext wp _) ya, HB1.out.ext ((by (repeat' (first | (with_reducible exact Ext.refl _) | (with_reducible assumption) | (with_reducible refine Ext.alloc ?_ _) | (with_reducible refine Ext.drew ?_) | (with_reducible refine Ext.drewN ?_ _) | (with_reducible refine Ext.setCell ?_ ?_ _) | (with_reducible refine Ext.trans ?_ (by assumption)))) <;> (first | (with_reducible assumption) | omega | (simp; done) | (simp; omega))) : Ext wp _) yb, ?_⟩, by simp [intOf]; omega⟩
          have := hE.size
          omega
        · rw [h2] at HD
          have HP2 := Lib.hid (HP.out _ h2)
          have HM2 := Lib.hid (show max (max M (1 + aT (pr6 n) (L.drop (j + 1)) (mns z (pr6 n k)))) (aT (pr6 n) (L.drop (j + 1)) z) = aT (pr6 n) L z by rw [← HM.out, HD.out]; simp only [if_true]; omega)
          have HX := Lib.hid (fun w => l2Xor_n z (pr6 n k) w)
          rw [xor_mns hK hz h2] at HX
          have HR := Lib.hid (fun v w hr => IH.out (L.drop (j + 1)) (by rw [List.length_drop]; omega) (fun i k' h => HG.out (j + 1 + i) k' (by rw [List.getElem?_drop] at h; exact h)) (by rw [List.length_drop]; omega) (mns z (pr6 n k)) (mns_lt _ hz) v w hr)
          have HMx := Lib.hid (fun w => l1Most_any M (1 + aT (pr6 n) (L.drop (j + 1)) (mns z (pr6 n k))) w)
          clear h2 HD HM HP
          generalize aT (pr6 n) (L.drop (j + 1)) (mns z (pr6 n k)) = T at *
          generalize mns z (pr6 n k) = zz at *
          go_wp2_with ((go_at_call 155; refine (HP2.out _).mono ?_; rintro e w1 ⟨rfl, hE⟩); have HA2 := Lib.hid (HA1.out.ext hE ya); have HB2 := Lib.hid (HB1.out.ext hE yb); skip; replace k0_0 : w1.cell? ⟨bK, 0, none⟩ = some (.int .i64 (rw (pr6 n k) 0)) := (hE.cells _ _ (by first | exact l0 | (simp; done) | (simp; omega))).trans (by first | exact k0_0 | (go_simp; done)); replace k0_1 : w1.cell? ⟨bK, 1, none⟩ = some (.int .i64 (rw (pr6 n k) 1)) := (hE.cells _ _ (by first | exact l0 | (simp; done) | (simp; omega))).trans (by first | exact k0_1 | (go_simp; done)); replace k0_2 : w1.cell? ⟨bK, 2, none⟩ = some (.int .i64 (rw (pr6 n k) 2)) := (hE.cells _ _ (by first | exact l0 | (simp; done) | (simp; omega))).trans (by first | exact k0_2 | (go_simp; done)); replace k0_3 : w1.cell? ⟨bK, 3, none⟩ = some (.int .i64 (rw (pr6 n k) 3)) := (hE.cells _ _ (by first | exact l0 | (simp; done) | (simp; omega))).trans (by first | exact k0_3 | (go_simp; done)); replace k0_4 : w1.cell? ⟨bK, 4, none⟩ = some (.int .i64 (rw (pr6 n k) 4)) := (hE.cells _ _ (by first | exact l0 | (simp; done) | (simp; omega))).trans (by first | exact k0_4 | (go_simp; done)); replace k0_5 : w1.cell? ⟨bK, 5, none⟩ = some (.int .i64 (rw (pr6 n k) 5)) := (hE.cells _ _ (by first | exact l0 | (simp; done) | (simp; omega))).trans (by first | exact k0_5 | (go_simp; done)); replace l0 : bK < w1.heap.size := Nat.lt_of_lt_of_le (by first | exact l0 | (simp; done) | (simp; omega)) hE.size; obtain ⟨wq, rfl⟩ : ∃ x, x = w1 := ⟨_, rfl⟩)
          have hxq : Ext w wq := hx1.trans hE
          have hsq := hE.size
          have xa : w.heap.size < wq.heap.size := by omega
          have xb : w.heap.size + 1 < wq.heap.size := by omega
          obtain ⟨⟨c0, c1, c2, c3, c4, c5⟩, _⟩ := HA2.out.all
          obtain ⟨⟨e0, e1, e2, e3, e4, e5⟩, _⟩ := HB2.out.all
          clear a0 a1 a2 a3 a4 a5 b0 b1 b2 b3 b4 b5 hE
          go_wp2
          refine wp_calm0 (by kernel_rfl) (by kernel_rfl) ?_; intro hgr; (refine walkQ_step (fun K hK => ?_); go_simp; (try (go_ints; try go_simp)); first | (refine hK _ ?_; clear hK K) | (apply Exists.intro; refine ⟨fun _ => ?_, hK _ ?_⟩; (first | (go_at_call 156; exact (HX.out _)) | (go_at_call 134; exact (HR.out _ _ (rawl_ext (rawl_drop (i := j + 1) (by omega) hcap hbw HC.out) ((hxq.drew).trans (ext_grow _ _))))) | (go_at_call 148; exact calm_same (HMx.out _))); clear hK K) | (simp only [↓IntWalk.iteOmega]; (try go_simp); (try (go_ints; try go_simp)); first | (refine hK _ ?_; clear hK K) | (apply Exists.intro; refine ⟨fun _ => ?_, hK _ ?_⟩; (first | (go_at_call 156; exact (HX.out _)) | (go_at_call 134; exact (HR.out _ _ (rawl_ext (rawl_drop (i := j + 1) (by omega) hcap hbw HC.out) ((hxq.drew).trans (ext_grow _ _))))) | (go_at_call 148; exact calm_same (HMx.out _))); clear hK K))); (refine walkQ_step (fun K hK => ?_); go_simp; (try (go_ints; try go_simp)); first | (refine hK _ ?_; clear hK K) | (apply Exists.intro; refine ⟨fun _ => ?_, hK _ ?_⟩; (first | (go_at_call 156; exact (HX.out _)) | (go_at_call 134; exact (HR.out _ _ (rawl_ext (rawl_drop (i := j + 1) (by omega) hcap hbw HC.out) ((hxq.drew).trans (ext_grow _ _))))) | (go_at_call 148; exact calm_same (HMx.out _))); clear hK K) | (simp only [↓IntWalk.iteOmega]; (try go_simp); (try (go_ints; try go_simp)); first | (refine hK _ ?_; clear hK K) | (apply Exists.intro; refine ⟨fun _ => ?_, hK _ ?_⟩; (first | (go_at_call 156; exact (HX.out _)) | (go_at_call 134; exact (HR.out _ _ (rawl_ext (rawl_drop (i := j + 1) (by omega) hcap hbw HC.out) ((hxq.drew).trans (ext_grow _ _))))) | (go_at_call 148; exact calm_same (HMx.out _))); clear hK K))); (refine walkQ_step (fun K hK => ?_); go_simp; (try (go_ints; try go_simp)); first | (refine hK _ ?_; clear hK K) | (apply Exists.intro; refine ⟨fun _ => ?_, hK _ ?_⟩; (first | (go_at_call 156; exact (HX.out _)) | (go_at_call 134; exact (HR.out _ _ (rawl_ext (rawl_drop (i := j + 1) (by omega) hcap hbw HC.out) ((hxq.drew).trans (ext_grow _ _))))) | (go_at_call 148; exact calm_same (HMx.out _))); clear hK K) | (simp only [↓IntWalk.iteOmega]; (try go_simp); (try (go_ints; try go_simp)); first | (refine hK _ ?_; clear hK K) | (apply Exists.intro; refine ⟨fun _ => ?_, hK _ ?_⟩; (first | (go_at_call 156; exact (HX.out _)) | (go_at_call 134; exact (HR.out _ _ (rawl_ext (rawl_drop (i := j + 1) (by omega) hcap hbw HC.out) ((hxq.drew).trans (ext_grow _ _))))) | (go_at_call 148; exact calm_same (HMx.out _))); clear hK K))); (refine walkQ_step (fun K hK => ?_); go_simp; (try (go_ints; try go_simp)); first | (refine hK _ ?_; clear hK K) | (apply Exists.intro; refine ⟨fun _ => ?_, hK _ ?_⟩; (first | (go_at_call 156; exact (HX.out _)) | (go_at_call 134; exact (HR.out _ _ (rawl_ext (rawl_drop (i := j + 1) (by omega) hcap hbw HC.out) ((hxq.drew).trans (ext_grow _ _))))) | (go_at_call 148; exact calm_same (HMx.out _))); clear hK K) | (simp only [↓IntWalk.iteOmega]; (try go_simp); (try (go_ints; try go_simp)); first | (refine hK _ ?_; clear hK K) | (apply Exists.intro; refine ⟨fun _ => ?_, hK _ ?_⟩; (first | (go_at_call 156; exact (HX.out _)) | (go_at_call 134; exact (HR.out _ _ (rawl_ext (rawl_drop (i := j + 1) (by omega) hcap hbw HC.out) ((hxq.drew).trans (ext_grow _ _))))) | (go_at_call 148; exact calm_same (HMx.out _))); clear hK K))); (refine walkQ_step (fun K hK => ?_); go_simp; (try (go_ints; try go_simp)); first | (refine hK _ ?_; clear hK K) | (apply Exists.intro; refine ⟨fun _ => ?_, hK _ ?_⟩; (first | (go_at_call 156; exact (HX.out _)) | (go_at_call 134; exact (HR.out _ _ (rawl_ext (rawl_drop (i := j + 1) (by omega) hcap hbw HC.out) ((hxq.drew).trans (ext_grow _ _))))) | (go_at_call 148; exact calm_same (HMx.out _))); clear hK K) | (simp only [↓IntWalk.iteOmega]; (try go_simp); (try (go_ints; try go_simp)); first | (refine hK _ ?_; clear hK K) | (apply Exists.intro; refine ⟨fun _ => ?_, hK _ ?_⟩; (first | (go_at_call 156; exact (HX.out _)) | (go_at_call 134; exact (HR.out _ _ (rawl_ext (rawl_drop (i := j + 1) (by omega) hcap hbw HC.out) ((hxq.drew).trans (ext_grow _ _))))) | (go_at_call 148; exact calm_same (HMx.out _))); clear hK K))); (refine walkQ_step (fun K hK => ?_); go_simp; (try (go_ints; try go_simp)); first | (refine hK _ ?_; clear hK K) | (apply Exists.intro; refine ⟨fun _ => ?_, hK _ ?_⟩; (first | (go_at_call 156; exact (HX.out _)) | (go_at_call 134; exact (HR.out _ _ (rawl_ext (rawl_drop (i := j + 1) (by omega) hcap hbw HC.out) ((hxq.drew).trans (ext_grow _ _))))) | (go_at_call 148; exact calm_same (HMx.out _))); clear hK K) | (simp only [↓IntWalk.iteOmega]; (try go_simp); (try (go_ints; try go_simp)); first | (refine hK _ ?_; clear hK K) | (apply Exists.intro; refine ⟨fun _ => ?_, hK _ ?_⟩; (first | (go_at_call 156; exact (HX.out _)) | (go_at_call 134; exact (HR.out _ _ (rawl_ext (rawl_drop (i := j + 1) (by omega) hcap hbw HC.out) ((hxq.drew).trans (ext_grow _ _))))) | (go_at_call 148; exact calm_same (HMx.out _))); clear hK K))); (refine walkQ_step (fun K hK => ?_); go_simp; (try (go_ints; try go_simp)); first | (refine hK _ ?_; clear hK K) | (apply Exists.intro; refine ⟨fun _ => ?_, hK _ ?_⟩; (first | (go_at_call 156; exact (HX.out _)) | (go_at_call 134; exact (HR.out _ _ (rawl_ext (rawl_drop (i := j + 1) (by omega) hcap hbw HC.out) ((hxq.drew).trans (ext_grow _ _))))) | (go_at_call 148; exact calm_same (HMx.out _))); clear hK K) | (simp only [↓IntWalk.iteOmega]; (try go_simp); (try (go_ints; try go_simp)); first | (refine hK _ ?_; clear hK K) | (apply Exists.intro; refine ⟨fun _ => ?_, hK _ ?_⟩; (first | (go_at_call 156; exact (HX.out _)) | (go_at_call 134; exact (HR.out _ _ (rawl_ext (rawl_drop (i := j + 1) (by omega) hcap hbw HC.out) ((hxq.drew).trans (ext_grow _ _))))) | (go_at_call 148; exact calm_same (HMx.out _))); clear hK K))); (refine walkQ_step (fun K hK => ?_); go_simp; (try (go_ints; try go_simp)); first | (refine hK _ ?_; clear hK K) | (apply Exists.intro; refine ⟨fun _ => ?_, hK _ ?_⟩; (first | (go_at_call 156; exact (HX.out _)) | (go_at_call 134; exact (HR.out _ _ (rawl_ext (rawl_drop (i := j + 1) (by omega) hcap hbw HC.out) ((hxq.drew).trans (ext_grow _ _))))) | (go_at_call 148; exact calm_same (HMx.out _))); clear hK K) | (simp only [↓IntWalk.iteOmega]; (try go_simp); (try (go_ints; try go_simp)); first | (refine hK _ ?_; clear hK K) | (apply Exists.intro; refine ⟨fun _ => ?_, hK _ ?_⟩; (first | (go_at_call 156; exact (HX.out _)) | (go_at_call 134; exact (HR.out _ _ (rawl_ext (rawl_drop (i := j + 1) (by omega) hcap hbw HC.out) ((hxq.drew).trans (ext_grow _ _))))) | (go_at_call 148; exact calm_same (HMx.out _))); clear hK K))); (refine walkQ_step (fun K hK => ?_); go_simp; (try (go_ints; try go_simp)); first | (refine hK _ ?_; clear hK K) | (apply Exists.intro; refine ⟨fun _ => ?_, hK _ ?_⟩; (first | (go_at_call 156; exact (HX.out _)) | (go_at_call 134; exact (HR.out _ _ (rawl_ext (rawl_drop (i := j + 1) (by omega) hcap hbw HC.out) ((hxq.drew).trans (ext_grow _ _))))) | (go_at_call 148; exact calm_same (HMx.out _))); clear hK K) | (simp only [↓IntWalk.iteOmega]; (try go_simp); (try (go_ints; try go_simp)); first | (refine hK _ ?_; clear hK K) | (apply Exists.intro; refine ⟨fun _ => ?_, hK _ ?_⟩; (first | (go_at_call 156; exact (HX.out _)) | (go_at_call 134; exact (HR.out _ _ (rawl_ext (rawl_drop (i := j + 1) (by omega) hcap hbw HC.out) ((hxq.drew).trans (ext_grow _ _))))) | (go_at_call 148; exact calm_same (HMx.out _))); clear hK K))); (refine walkQ_step (fun K hK => ?_); go_simp; (try (go_ints; try go_simp)); first | (refine hK _ ?_; clear hK K) | (apply Exists.intro; refine ⟨fun _ => ?_, hK _ ?_⟩; (first | (go_at_call 156; exact (HX.out _)) | (go_at_call 134; exact (HR.out _ _ (rawl_ext (rawl_drop (i := j + 1) (by omega) hcap hbw HC.out) ((hxq.drew).trans (ext_grow _ _))))) | (go_at_call 148; exact calm_same (HMx.out _))); clear hK K) | (simp only [↓IntWalk.iteOmega]; (try go_simp); (try (go_ints; try go_simp)); first | (refine hK _ ?_; clear hK K) | (apply Exists.intro; refine ⟨fun _ => ?_, hK _ ?_⟩; (first | (go_at_call 156; exact (HX.out _)) | (go_at_call 134; exact (HR.out _ _ (rawl_ext (rawl_drop (i := j + 1) (by omega) hcap hbw HC.out) ((hxq.drew).trans (ext_grow _ _))))) | (go_at_call 148; exact calm_same (HMx.out _))); clear hK K))); (refine walkQ_step (fun K hK => ?_); go_simp; (try (go_ints; try go_simp)); first | (refine hK _ ?_; clear hK K) | (apply Exists.intro; refine ⟨fun _ => ?_, hK _ ?_⟩; (first | (go_at_call 156; exact (HX.out _)) | (go_at_call 134; exact (HR.out _ _ (rawl_ext (rawl_drop (i := j + 1) (by omega) hcap hbw HC.out) ((hxq.drew).trans (ext_grow _ _))))) | (go_at_call 148; exact calm_same (HMx.out _))); clear hK K) | (simp only [↓IntWalk.iteOmega]; (try go_simp); (try (go_ints; try go_simp)); first | (refine hK _ ?_; clear hK K) | (apply Exists.intro; refine ⟨fun _ => ?_, hK _ ?_⟩; (first | (go_at_call 156; exact (HX.out _)) | (go_at_call 134; exact (HR.out _ _ (rawl_ext (rawl_drop (i := j + 1) (by omega) hcap hbw HC.out) ((hxq.drew).trans (ext_grow _ _))))) | (go_at_call 148; exact calm_same (HMx.out _))); clear hK K))); (refine walkQ_step (fun K hK => ?_); go_simp; (try (go_ints; try go_simp)); first | (refine hK _ ?_; clear hK K) | (apply Exists.intro; refine ⟨fun _ => ?_, hK _ ?_⟩; (first | (go_at_call 156; exact (HX.out _)) | (go_at_call 134; exact (HR.out _ _ (rawl_ext (rawl_drop (i := j + 1) (by omega) hcap hbw HC.out) ((hxq.drew).trans (ext_grow _ _))))) | (go_at_call 148; exact calm_same (HMx.out _))); clear hK K) | (simp only [↓IntWalk.iteOmega]; (try go_simp); (try (go_ints; try go_simp)); first | (refine hK _ ?_; clear hK K) | (apply Exists.intro; refine ⟨fun _ => ?_, hK _ ?_⟩; (first | (go_at_call 156; exact (HX.out _)) | (go_at_call 134; exact (HR.out _ _ (rawl_ext (rawl_drop (i := j + 1) (by omega) hcap hbw HC.out) ((hxq.drew).trans (ext_grow _ _))))) | (go_at_call 148; exact calm_same (HMx.out _))); clear hK K))); (refine walkQ_step (fun K hK => ?_); go_simp; (try (go_ints; try go_simp)); first | (refine hK _ ?_; clear hK K) | (apply Exists.intro; refine ⟨fun _ => ?_, hK _ ?_⟩; (first | (go_at_call 156; exact (HX.out _)) | (go_at_call 134; exact (HR.out _ _ (rawl_ext (rawl_drop (i := j + 1) (by omega) hcap hbw HC.out) ((hxq.drew).trans (ext_grow _ _))))) | (go_at_call 148; exact calm_same (HMx.out _))); clear hK K) | (simp only [↓IntWalk.iteOmega]; (try go_simp); (try (go_ints; try go_simp)); first | (refine hK _ ?_; clear hK K) | (apply Exists.intro; refine ⟨fun _ => ?_, hK _ ?_⟩; (first | (go_at_call 156; exact (HX.out _)) | (go_at_call 134; exact (HR.out _ _ (rawl_ext (rawl_drop (i := j + 1) (by omega) hcap hbw HC.out) ((hxq.drew).trans (ext_grow _ _))))) | (go_at_call 148; exact calm_same (HMx.out _))); clear hK K))); refine walkQ_nil ?_; clear hgr; intro w1 hE; replace k0_0 : w1.cell? ⟨bK, 0, none⟩ = some (.int .i64 (rw (pr6 n k) 0)) := (hE.cells _ _ (by first | exact l0 | (simp; done) | (simp; omega))).trans (by first | exact k0_0 | (go_simp; done)); replace k0_1 : w1.cell? ⟨bK, 1, none⟩ = some (.int .i64 (rw (pr6 n k) 1)) := (hE.cells _ _ (by first | exact l0 | (simp; done) | (simp; omega))).trans (by first | exact k0_1 | (go_simp; done)); replace k0_2 : w1.cell? ⟨bK, 2, none⟩ = some (.int .i64 (rw (pr6 n k) 2)) := (hE.cells _ _ (by first | exact l0 | (simp; done) | (simp; omega))).trans (by first | exact k0_2 | (go_simp; done)); replace k0_3 : w1.cell? ⟨bK, 3, none⟩ = some (.int .i64 (rw (pr6 n k) 3)) := (hE.cells _ _ (by first | exact l0 | (simp; done) | (simp; omega))).trans (by first | exact k0_3 | (go_simp; done)); replace k0_4 : w1.cell? ⟨bK, 4, none⟩ = some (.int .i64 (rw (pr6 n k) 4)) := (hE.cells _ _ (by first | exact l0 | (simp; done) | (simp; omega))).trans (by first | exact k0_4 | (go_simp; done)); replace k0_5 : w1.cell? ⟨bK, 5, none⟩ = some (.int .i64 (rw (pr6 n k) 5)) := (hE.cells _ _ (by first | exact l0 | (simp; done) | (simp; omega))).trans (by first | exact k0_5 | (go_simp; done)); replace l0 : bK < w1.heap.size := Nat.lt_of_lt_of_le (by first | exact l0 | (simp; done) | (simp; omega)) hE.size
          replace hE : Ext wq w1 := ((Ext.refl wq).drew).trans hE
          go_wp2
          refine ⟨⟨j + 1, max M (1 + T), by omega, by omega, by go_num, rfl, HM2.out, (by (repeat' (first | (with_reducible exact Ext.refl _) | (with_reducible assumption) | (with_reducible refine Ext.alloc ?_ _) | (with_reducible refine Ext.drew ?_) | (with_reducible refine Ext.drewN ?_ _) | (with_reducible refine Ext.setCell ?_ ?_ _) | (with_reducible refine Ext.trans ?_ (by assumption)))) <;> (first | (with_reducible assumption) | omega | (simp; done) | (simp; omega))), HA2.out.ext hE xa, HB2.out.ext hE xb, ?_⟩, by simp [intOf]; omega⟩
          have := hE.size
          omega
      · obtain rfl : j = L.length := by omega
        have HF := Lib.hid (show (M : Nat) = aT (pr6 n) L z by rw [← HM.out, List.drop_length]; simp [aT])
        go_wp2
        go_returns
        exact ⟨ret_int (by rw [HF.out]), (by (repeat' (first | (with_reducible exact Ext.refl _) | (with_reducible assumption) | (with_reducible refine Ext.alloc ?_ _) | (with_reducible refine Ext.drew ?_) | (with_reducible refine Ext.drewN ?_ _) | (with_reducible refine Ext.setCell ?_ ?_ _) | (with_reducible refine Ext.trans ?_ (by assumption)))) <;> (first | (with_reducible assumption) | omega | (simp; done) | (simp; omega)))⟩
theorem sMostApart_bad (r s : Nat → Int) (h : tiB r s = false) (w : World) : Calls Try.prog 72 #[(.agg #[.int .i64 (r 0), .int .i64 (r 1), .int .i64 (r 2), .int .i64 (r 3), .int .i64 (r 4), .int .i64 (r 5)]), (.agg #[.int .i64 (s 0), .int .i64 (s 1), .int .i64 (s 2), .int .i64 (s 3), .int .i64 (s 4), .int .i64 (s 5)])] w fun e w' => e = .returned (.tuple #[.int .i64 0, .bool false]) ∧ Ext w w' := by
  have H := Lib.hid (fun w => l6Small_bad r s h w)
  clear h
  skip
  go_enter Try.func72, Try.ntmps72
  go_wp2_with (go_at_call 119; refine (H.out _).mono ?_; rintro e w1 ⟨rfl, hE⟩; replace k0_0 : w1.cell? ⟨w.heap.size, 0, none⟩ = some (.int .i64 (r 0)) := (hE.cells _ _ (by first | exact l0 | (simp; done) | (simp; omega))).trans (by first | exact k0_0 | (go_simp; done)); replace k0_1 : w1.cell? ⟨w.heap.size, 1, none⟩ = some (.int .i64 (r 1)) := (hE.cells _ _ (by first | exact l0 | (simp; done) | (simp; omega))).trans (by first | exact k0_1 | (go_simp; done)); replace k0_2 : w1.cell? ⟨w.heap.size, 2, none⟩ = some (.int .i64 (r 2)) := (hE.cells _ _ (by first | exact l0 | (simp; done) | (simp; omega))).trans (by first | exact k0_2 | (go_simp; done)); replace k0_3 : w1.cell? ⟨w.heap.size, 3, none⟩ = some (.int .i64 (r 3)) := (hE.cells _ _ (by first | exact l0 | (simp; done) | (simp; omega))).trans (by first | exact k0_3 | (go_simp; done)); replace k0_4 : w1.cell? ⟨w.heap.size, 4, none⟩ = some (.int .i64 (r 4)) := (hE.cells _ _ (by first | exact l0 | (simp; done) | (simp; omega))).trans (by first | exact k0_4 | (go_simp; done)); replace k0_5 : w1.cell? ⟨w.heap.size, 5, none⟩ = some (.int .i64 (r 5)) := (hE.cells _ _ (by first | exact l0 | (simp; done) | (simp; omega))).trans (by first | exact k0_5 | (go_simp; done)); replace k1_0 : w1.cell? ⟨w.heap.size + 1, 0, none⟩ = some (.int .i64 (s 0)) := (hE.cells _ _ (by first | exact l1 | (simp; done) | (simp; omega))).trans (by first | exact k1_0 | (go_simp; done)); replace k1_1 : w1.cell? ⟨w.heap.size + 1, 1, none⟩ = some (.int .i64 (s 1)) := (hE.cells _ _ (by first | exact l1 | (simp; done) | (simp; omega))).trans (by first | exact k1_1 | (go_simp; done)); replace k1_2 : w1.cell? ⟨w.heap.size + 1, 2, none⟩ = some (.int .i64 (s 2)) := (hE.cells _ _ (by first | exact l1 | (simp; done) | (simp; omega))).trans (by first | exact k1_2 | (go_simp; done)); replace k1_3 : w1.cell? ⟨w.heap.size + 1, 3, none⟩ = some (.int .i64 (s 3)) := (hE.cells _ _ (by first | exact l1 | (simp; done) | (simp; omega))).trans (by first | exact k1_3 | (go_simp; done)); replace k1_4 : w1.cell? ⟨w.heap.size + 1, 4, none⟩ = some (.int .i64 (s 4)) := (hE.cells _ _ (by first | exact l1 | (simp; done) | (simp; omega))).trans (by first | exact k1_4 | (go_simp; done)); replace k1_5 : w1.cell? ⟨w.heap.size + 1, 5, none⟩ = some (.int .i64 (s 5)) := (hE.cells _ _ (by first | exact l1 | (simp; done) | (simp; omega))).trans (by first | exact k1_5 | (go_simp; done)); replace l0 : w.heap.size < w1.heap.size := Nat.lt_of_lt_of_le (by first | exact l0 | (simp; done) | (simp; omega)) hE.size; replace l1 : w.heap.size + 1 < w1.heap.size := Nat.lt_of_lt_of_le (by first | exact l1 | (simp; done) | (simp; omega)) hE.size)
  go_returns
  exact ⟨rfl, (by (repeat' (first | (with_reducible exact Ext.refl _) | (with_reducible assumption) | (with_reducible refine Ext.alloc ?_ _) | (with_reducible refine Ext.drew ?_) | (with_reducible refine Ext.drewN ?_ _) | (with_reducible refine Ext.setCell ?_ ?_ _) | (with_reducible refine Ext.trans ?_ (by assumption)))) <;> (first | (with_reducible assumption) | omega | (simp; done) | (simp; omega)))⟩
theorem sMostApart_ok (n m : Nat) (hn : n < 68719476736) (hm : m < 68719476736) (h : (decide (n ≠ 0) && decide (cnt m ≤ 12)) = true) (w : World) : Calls Try.prog 72 #[(.agg #[.int .i64 (rw n 0), .int .i64 (rw n 1), .int .i64 (rw n 2), .int .i64 (rw n 3), .int .i64 (rw n 4), .int .i64 (rw n 5)]), (.agg #[.int .i64 (rw m 0), .int .i64 (rw m 1), .int .i64 (rw m 2), .int .i64 (rw m 3), .int .i64 (rw m 4), .int .i64 (rw m 5)])] w fun e w' => e = .returned (.tuple #[.int .i64 (aT (pr6 n) (fl (opP n m) 36) m : Nat), .bool true]) ∧ Ext w w' := by
  have H := Lib.hid (fun w => l6Small_n n m hn true h w)
  have HO := Lib.hid (fun w => l6Open_n n m w)
  have HA := Lib.hid (fun v w hr => l6Apart_n n hn 37 (fl (opP n m) 36) (by have := fl_le (opP n m) 36; omega) (fun i k h => fl_lt h) (fl_le _ _) m hm v w hr)
  clear h
  generalize fl (opP n m) 36 = L at *
  generalize aT (pr6 n) L m = A at *
  skip
  go_enter Try.func72, Try.ntmps72
  go_wp2_with ((go_at_call 119; refine (H.out _).mono ?_; rintro e w1 ⟨rfl, hE⟩; replace k0_0 : w1.cell? ⟨w.heap.size, 0, none⟩ = some (.int .i64 (rw n 0)) := (hE.cells _ _ (by first | exact l0 | (simp; done) | (simp; omega))).trans (by first | exact k0_0 | (go_simp; done)); replace k0_1 : w1.cell? ⟨w.heap.size, 1, none⟩ = some (.int .i64 (rw n 1)) := (hE.cells _ _ (by first | exact l0 | (simp; done) | (simp; omega))).trans (by first | exact k0_1 | (go_simp; done)); replace k0_2 : w1.cell? ⟨w.heap.size, 2, none⟩ = some (.int .i64 (rw n 2)) := (hE.cells _ _ (by first | exact l0 | (simp; done) | (simp; omega))).trans (by first | exact k0_2 | (go_simp; done)); replace k0_3 : w1.cell? ⟨w.heap.size, 3, none⟩ = some (.int .i64 (rw n 3)) := (hE.cells _ _ (by first | exact l0 | (simp; done) | (simp; omega))).trans (by first | exact k0_3 | (go_simp; done)); replace k0_4 : w1.cell? ⟨w.heap.size, 4, none⟩ = some (.int .i64 (rw n 4)) := (hE.cells _ _ (by first | exact l0 | (simp; done) | (simp; omega))).trans (by first | exact k0_4 | (go_simp; done)); replace k0_5 : w1.cell? ⟨w.heap.size, 5, none⟩ = some (.int .i64 (rw n 5)) := (hE.cells _ _ (by first | exact l0 | (simp; done) | (simp; omega))).trans (by first | exact k0_5 | (go_simp; done)); replace k1_0 : w1.cell? ⟨w.heap.size + 1, 0, none⟩ = some (.int .i64 (rw m 0)) := (hE.cells _ _ (by first | exact l1 | (simp; done) | (simp; omega))).trans (by first | exact k1_0 | (go_simp; done)); replace k1_1 : w1.cell? ⟨w.heap.size + 1, 1, none⟩ = some (.int .i64 (rw m 1)) := (hE.cells _ _ (by first | exact l1 | (simp; done) | (simp; omega))).trans (by first | exact k1_1 | (go_simp; done)); replace k1_2 : w1.cell? ⟨w.heap.size + 1, 2, none⟩ = some (.int .i64 (rw m 2)) := (hE.cells _ _ (by first | exact l1 | (simp; done) | (simp; omega))).trans (by first | exact k1_2 | (go_simp; done)); replace k1_3 : w1.cell? ⟨w.heap.size + 1, 3, none⟩ = some (.int .i64 (rw m 3)) := (hE.cells _ _ (by first | exact l1 | (simp; done) | (simp; omega))).trans (by first | exact k1_3 | (go_simp; done)); replace k1_4 : w1.cell? ⟨w.heap.size + 1, 4, none⟩ = some (.int .i64 (rw m 4)) := (hE.cells _ _ (by first | exact l1 | (simp; done) | (simp; omega))).trans (by first | exact k1_4 | (go_simp; done)); replace k1_5 : w1.cell? ⟨w.heap.size + 1, 5, none⟩ = some (.int .i64 (rw m 5)) := (hE.cells _ _ (by first | exact l1 | (simp; done) | (simp; omega))).trans (by first | exact k1_5 | (go_simp; done)); replace l0 : w.heap.size < w1.heap.size := Nat.lt_of_lt_of_le (by first | exact l0 | (simp; done) | (simp; omega)) hE.size; replace l1 : w.heap.size + 1 < w1.heap.size := Nat.lt_of_lt_of_le (by first | exact l1 | (simp; done) | (simp; omega)) hE.size); obtain ⟨wa, rfl⟩ : ∃ x, x = w1 := ⟨_, rfl⟩)
  have hsz := l0
  refine wp_perm [(0, true), (1, true), (2, true), (3, true), (4, false), (5, false)] [6, 7] (by kernel_rfl) (by kernel_rfl) ?_; simp only [pickO, pickT, List.getElem?_cons_succ, List.getElem?_cons_zero]; intro hgr
  (refine walkP_step (fun K hK => ?_); go_simp; (try (go_ints; try go_simp)); first | (refine hK _ ?_; clear hK K) | (apply Exists.intro; refine ⟨fun _ => ?_, hK _ ?_⟩; (fail); clear hK K) | (simp only [↓IntWalk.iteOmega]; (try go_simp); (try (go_ints; try go_simp)); first | (refine hK _ ?_; clear hK K) | (apply Exists.intro; refine ⟨fun _ => ?_, hK _ ?_⟩; (fail); clear hK K))); (refine walkP_step (fun K hK => ?_); go_simp; (try (go_ints; try go_simp)); first | (refine hK _ ?_; clear hK K) | (apply Exists.intro; refine ⟨fun _ => ?_, hK _ ?_⟩; (fail); clear hK K) | (simp only [↓IntWalk.iteOmega]; (try go_simp); (try (go_ints; try go_simp)); first | (refine hK _ ?_; clear hK K) | (apply Exists.intro; refine ⟨fun _ => ?_, hK _ ?_⟩; (fail); clear hK K))); (refine walkP_step (fun K hK => ?_); go_simp; (try (go_ints; try go_simp)); first | (refine hK _ ?_; clear hK K) | (apply Exists.intro; refine ⟨fun _ => ?_, hK _ ?_⟩; (fail); clear hK K) | (simp only [↓IntWalk.iteOmega]; (try go_simp); (try (go_ints; try go_simp)); first | (refine hK _ ?_; clear hK K) | (apply Exists.intro; refine ⟨fun _ => ?_, hK _ ?_⟩; (fail); clear hK K))); (refine walkP_step (fun K hK => ?_); go_simp; (try (go_ints; try go_simp)); first | (refine hK _ ?_; clear hK K) | (apply Exists.intro; refine ⟨fun _ => ?_, hK _ ?_⟩; (fail); clear hK K) | (simp only [↓IntWalk.iteOmega]; (try go_simp); (try (go_ints; try go_simp)); first | (refine hK _ ?_; clear hK K) | (apply Exists.intro; refine ⟨fun _ => ?_, hK _ ?_⟩; (fail); clear hK K)))
  refine walkP_call (fun v => v) (fun v w' => w'.ownsRow (wa.heap.size) 33 2 v L.length (pxy L)) (fun _ _ _ hx h => own_ext h hx) rfl (fun wc hxc _ => ?_) (fun v => ?_); (go_simp; simp only [anyUpon]; refine (HO.out _).mono ?_; rintro e w1 ⟨u, rfl, hE, ho⟩; replace ho := own_mono (B' := wa.heap.size) ho (by have := hxc.size; simp at this; omega); first | exact ⟨_, rfl, u, rfl, hE, ho⟩ | exact ⟨_, rfl, hE, ho⟩)
  refine walkP_call (fun _ => (.int .i64 (A : Int))) (fun _ _ => True) (fun _ _ _ _ _ => trivial) rfl (fun wc hxc hF => ?_) (fun _ => ?_); (go_simp; simp only [anyUpon]; refine (HA.out _ _ (rawl_own hF.2)).mono ?_; rintro e w1 ⟨rfl, hE⟩; first | exact ⟨_, rfl, rfl, hE⟩ | exact ⟨_, rfl, .nil .i64, rfl, hE, trivial⟩ | exact ⟨_, rfl, rfl, hE, trivial⟩ | exact ⟨_, rfl, hE, trivial⟩ | (simp [hE]; done) | (refine ⟨_, rfl, ?_⟩; simp [hE]; done))
  refine walkP_nil ?_; clear hgr; intro w1 hE hF; replace k0_0 : w1.cell? ⟨w.heap.size, 0, none⟩ = some (.int .i64 (rw n 0)) := (hE.cells _ _ (by first | exact l0 | (simp; done) | (simp; omega))).trans (by first | exact k0_0 | (go_simp; done)); replace k0_1 : w1.cell? ⟨w.heap.size, 1, none⟩ = some (.int .i64 (rw n 1)) := (hE.cells _ _ (by first | exact l0 | (simp; done) | (simp; omega))).trans (by first | exact k0_1 | (go_simp; done)); replace k0_2 : w1.cell? ⟨w.heap.size, 2, none⟩ = some (.int .i64 (rw n 2)) := (hE.cells _ _ (by first | exact l0 | (simp; done) | (simp; omega))).trans (by first | exact k0_2 | (go_simp; done)); replace k0_3 : w1.cell? ⟨w.heap.size, 3, none⟩ = some (.int .i64 (rw n 3)) := (hE.cells _ _ (by first | exact l0 | (simp; done) | (simp; omega))).trans (by first | exact k0_3 | (go_simp; done)); replace k0_4 : w1.cell? ⟨w.heap.size, 4, none⟩ = some (.int .i64 (rw n 4)) := (hE.cells _ _ (by first | exact l0 | (simp; done) | (simp; omega))).trans (by first | exact k0_4 | (go_simp; done)); replace k0_5 : w1.cell? ⟨w.heap.size, 5, none⟩ = some (.int .i64 (rw n 5)) := (hE.cells _ _ (by first | exact l0 | (simp; done) | (simp; omega))).trans (by first | exact k0_5 | (go_simp; done)); replace k1_0 : w1.cell? ⟨w.heap.size + 1, 0, none⟩ = some (.int .i64 (rw m 0)) := (hE.cells _ _ (by first | exact l1 | (simp; done) | (simp; omega))).trans (by first | exact k1_0 | (go_simp; done)); replace k1_1 : w1.cell? ⟨w.heap.size + 1, 1, none⟩ = some (.int .i64 (rw m 1)) := (hE.cells _ _ (by first | exact l1 | (simp; done) | (simp; omega))).trans (by first | exact k1_1 | (go_simp; done)); replace k1_2 : w1.cell? ⟨w.heap.size + 1, 2, none⟩ = some (.int .i64 (rw m 2)) := (hE.cells _ _ (by first | exact l1 | (simp; done) | (simp; omega))).trans (by first | exact k1_2 | (go_simp; done)); replace k1_3 : w1.cell? ⟨w.heap.size + 1, 3, none⟩ = some (.int .i64 (rw m 3)) := (hE.cells _ _ (by first | exact l1 | (simp; done) | (simp; omega))).trans (by first | exact k1_3 | (go_simp; done)); replace k1_4 : w1.cell? ⟨w.heap.size + 1, 4, none⟩ = some (.int .i64 (rw m 4)) := (hE.cells _ _ (by first | exact l1 | (simp; done) | (simp; omega))).trans (by first | exact k1_4 | (go_simp; done)); replace k1_5 : w1.cell? ⟨w.heap.size + 1, 5, none⟩ = some (.int .i64 (rw m 5)) := (hE.cells _ _ (by first | exact l1 | (simp; done) | (simp; omega))).trans (by first | exact k1_5 | (go_simp; done)); replace l0 : w.heap.size < w1.heap.size := Nat.lt_of_lt_of_le (by first | exact l0 | (simp; done) | (simp; omega)) hE.size; replace l1 : w.heap.size + 1 < w1.heap.size := Nat.lt_of_lt_of_le (by first | exact l1 | (simp; done) | (simp; omega)) hE.size
  go_wp2
  go_returns
  exact ⟨rfl, (by (repeat' (first | (with_reducible exact Ext.refl _) | (with_reducible assumption) | (with_reducible refine Ext.alloc ?_ _) | (with_reducible refine Ext.drew ?_) | (with_reducible refine Ext.drewN ?_ _) | (with_reducible refine Ext.setCell ?_ ?_ _) | (with_reducible refine Ext.trans ?_ (by assumption)))) <;> (first | (with_reducible assumption) | omega | (simp; done) | (simp; omega)))⟩
theorem MostApart_bad (r s : Nat → Int) (h : tiB r s = false) (w : World) : Calls Try.prog 71 #[(.agg #[.int .i64 (r 0), .int .i64 (r 1), .int .i64 (r 2), .int .i64 (r 3), .int .i64 (r 4), .int .i64 (r 5)]), (.agg #[.int .i64 (s 0), .int .i64 (s 1), .int .i64 (s 2), .int .i64 (s 3), .int .i64 (s 4), .int .i64 (s 5)])] w fun e w' => e = .returned (.tuple #[.int .i64 0, .bool false]) ∧ Ext w w' := by
  have H := Lib.hid (fun w => areTiled_bad r s h w)
  clear h
  generalize setN r = a at *
  generalize setN s = b at *
  skip
  go_enter Try.func71, Try.ntmps71
  go_wp2_with (go_at_call 123; refine (H.out _).mono ?_; rintro e w1 ⟨rfl, hE⟩; replace k0_0 : w1.cell? ⟨w.heap.size, 0, none⟩ = some (.int .i64 (r 0)) := (hE.cells _ _ (by first | exact l0 | (simp; done) | (simp; omega))).trans (by first | exact k0_0 | (go_simp; done)); replace k0_1 : w1.cell? ⟨w.heap.size, 1, none⟩ = some (.int .i64 (r 1)) := (hE.cells _ _ (by first | exact l0 | (simp; done) | (simp; omega))).trans (by first | exact k0_1 | (go_simp; done)); replace k0_2 : w1.cell? ⟨w.heap.size, 2, none⟩ = some (.int .i64 (r 2)) := (hE.cells _ _ (by first | exact l0 | (simp; done) | (simp; omega))).trans (by first | exact k0_2 | (go_simp; done)); replace k0_3 : w1.cell? ⟨w.heap.size, 3, none⟩ = some (.int .i64 (r 3)) := (hE.cells _ _ (by first | exact l0 | (simp; done) | (simp; omega))).trans (by first | exact k0_3 | (go_simp; done)); replace k0_4 : w1.cell? ⟨w.heap.size, 4, none⟩ = some (.int .i64 (r 4)) := (hE.cells _ _ (by first | exact l0 | (simp; done) | (simp; omega))).trans (by first | exact k0_4 | (go_simp; done)); replace k0_5 : w1.cell? ⟨w.heap.size, 5, none⟩ = some (.int .i64 (r 5)) := (hE.cells _ _ (by first | exact l0 | (simp; done) | (simp; omega))).trans (by first | exact k0_5 | (go_simp; done)); replace k1_0 : w1.cell? ⟨w.heap.size + 1, 0, none⟩ = some (.int .i64 (s 0)) := (hE.cells _ _ (by first | exact l1 | (simp; done) | (simp; omega))).trans (by first | exact k1_0 | (go_simp; done)); replace k1_1 : w1.cell? ⟨w.heap.size + 1, 1, none⟩ = some (.int .i64 (s 1)) := (hE.cells _ _ (by first | exact l1 | (simp; done) | (simp; omega))).trans (by first | exact k1_1 | (go_simp; done)); replace k1_2 : w1.cell? ⟨w.heap.size + 1, 2, none⟩ = some (.int .i64 (s 2)) := (hE.cells _ _ (by first | exact l1 | (simp; done) | (simp; omega))).trans (by first | exact k1_2 | (go_simp; done)); replace k1_3 : w1.cell? ⟨w.heap.size + 1, 3, none⟩ = some (.int .i64 (s 3)) := (hE.cells _ _ (by first | exact l1 | (simp; done) | (simp; omega))).trans (by first | exact k1_3 | (go_simp; done)); replace k1_4 : w1.cell? ⟨w.heap.size + 1, 4, none⟩ = some (.int .i64 (s 4)) := (hE.cells _ _ (by first | exact l1 | (simp; done) | (simp; omega))).trans (by first | exact k1_4 | (go_simp; done)); replace k1_5 : w1.cell? ⟨w.heap.size + 1, 5, none⟩ = some (.int .i64 (s 5)) := (hE.cells _ _ (by first | exact l1 | (simp; done) | (simp; omega))).trans (by first | exact k1_5 | (go_simp; done)); replace l0 : w.heap.size < w1.heap.size := Nat.lt_of_lt_of_le (by first | exact l0 | (simp; done) | (simp; omega)) hE.size; replace l1 : w.heap.size + 1 < w1.heap.size := Nat.lt_of_lt_of_le (by first | exact l1 | (simp; done) | (simp; omega)) hE.size)
  go_returns
  exact ⟨rfl, (by (repeat' (first | (with_reducible exact Ext.refl _) | (with_reducible assumption) | (with_reducible refine Ext.alloc ?_ _) | (with_reducible refine Ext.drew ?_) | (with_reducible refine Ext.drewN ?_ _) | (with_reducible refine Ext.setCell ?_ ?_ _) | (with_reducible refine Ext.trans ?_ (by assumption)))) <;> (first | (with_reducible assumption) | omega | (simp; done) | (simp; omega)))⟩
theorem MostApart_ok (n m : Nat) (hn : n < 68719476736) (hm : m < 68719476736) (h : (decide (n ≠ 0) && decide (cnt m ≤ 12)) = true) (w : World) : Calls Try.prog 71 #[(.agg #[.int .i64 (rw n 0), .int .i64 (rw n 1), .int .i64 (rw n 2), .int .i64 (rw n 3), .int .i64 (rw n 4), .int .i64 (rw n 5)]), (.agg #[.int .i64 (rw m 0), .int .i64 (rw m 1), .int .i64 (rw m 2), .int .i64 (rw m 3), .int .i64 (rw m 4), .int .i64 (rw m 5)])] w fun e w' => e = .returned (.tuple #[.int .i64 (aT (pr6 n) (fl (opP n m) 36) m : Nat), .bool true]) ∧ Ext w w' := by
  have H := Lib.hid (fun w => areTiled_n n m hn hm true h w)
  have h0 : n ≠ 0 := of_decide_eq_true (Bool.and_eq_true_iff.1 h).1
  have HO := Lib.hid (fun w => open_n n m hm hn w)
  have HA := Lib.hid (fun B v w ho => apart_n n hn h0 (fl (opP n m) 36) (fun i k h => fl_lt h) (fl_le _ _) 37 m (by have := cnt_le m; omega) hm B v w ho)
  clear h h0
  generalize fl (opP n m) 36 = L at *
  generalize aT (pr6 n) L m = A at *
  skip
  go_enter Try.func71, Try.ntmps71
  go_wp2_with (first | (go_at_call 123; refine (H.out _).mono ?_; rintro e w1 ⟨rfl, hE⟩; replace k0_0 : w1.cell? ⟨w.heap.size, 0, none⟩ = some (.int .i64 (rw n 0)) := (hE.cells _ _ (by first | exact l0 | (simp; done) | (simp; omega))).trans (by first | exact k0_0 | (go_simp; done)); replace k0_1 : w1.cell? ⟨w.heap.size, 1, none⟩ = some (.int .i64 (rw n 1)) := (hE.cells _ _ (by first | exact l0 | (simp; done) | (simp; omega))).trans (by first | exact k0_1 | (go_simp; done)); replace k0_2 : w1.cell? ⟨w.heap.size, 2, none⟩ = some (.int .i64 (rw n 2)) := (hE.cells _ _ (by first | exact l0 | (simp; done) | (simp; omega))).trans (by first | exact k0_2 | (go_simp; done)); replace k0_3 : w1.cell? ⟨w.heap.size, 3, none⟩ = some (.int .i64 (rw n 3)) := (hE.cells _ _ (by first | exact l0 | (simp; done) | (simp; omega))).trans (by first | exact k0_3 | (go_simp; done)); replace k0_4 : w1.cell? ⟨w.heap.size, 4, none⟩ = some (.int .i64 (rw n 4)) := (hE.cells _ _ (by first | exact l0 | (simp; done) | (simp; omega))).trans (by first | exact k0_4 | (go_simp; done)); replace k0_5 : w1.cell? ⟨w.heap.size, 5, none⟩ = some (.int .i64 (rw n 5)) := (hE.cells _ _ (by first | exact l0 | (simp; done) | (simp; omega))).trans (by first | exact k0_5 | (go_simp; done)); replace k1_0 : w1.cell? ⟨w.heap.size + 1, 0, none⟩ = some (.int .i64 (rw m 0)) := (hE.cells _ _ (by first | exact l1 | (simp; done) | (simp; omega))).trans (by first | exact k1_0 | (go_simp; done)); replace k1_1 : w1.cell? ⟨w.heap.size + 1, 1, none⟩ = some (.int .i64 (rw m 1)) := (hE.cells _ _ (by first | exact l1 | (simp; done) | (simp; omega))).trans (by first | exact k1_1 | (go_simp; done)); replace k1_2 : w1.cell? ⟨w.heap.size + 1, 2, none⟩ = some (.int .i64 (rw m 2)) := (hE.cells _ _ (by first | exact l1 | (simp; done) | (simp; omega))).trans (by first | exact k1_2 | (go_simp; done)); replace k1_3 : w1.cell? ⟨w.heap.size + 1, 3, none⟩ = some (.int .i64 (rw m 3)) := (hE.cells _ _ (by first | exact l1 | (simp; done) | (simp; omega))).trans (by first | exact k1_3 | (go_simp; done)); replace k1_4 : w1.cell? ⟨w.heap.size + 1, 4, none⟩ = some (.int .i64 (rw m 4)) := (hE.cells _ _ (by first | exact l1 | (simp; done) | (simp; omega))).trans (by first | exact k1_4 | (go_simp; done)); replace k1_5 : w1.cell? ⟨w.heap.size + 1, 5, none⟩ = some (.int .i64 (rw m 5)) := (hE.cells _ _ (by first | exact l1 | (simp; done) | (simp; omega))).trans (by first | exact k1_5 | (go_simp; done)); replace l0 : w.heap.size < w1.heap.size := Nat.lt_of_lt_of_le (by first | exact l0 | (simp; done) | (simp; omega)) hE.size; replace l1 : w.heap.size + 1 < w1.heap.size := Nat.lt_of_lt_of_le (by first | exact l1 | (simp; done) | (simp; omega)) hE.size) | (go_at_call 107; refine (HO.out _).mono ?_; rintro e w1 ⟨v0, rfl, hE, ho⟩; replace k0_0 : w1.cell? ⟨w.heap.size, 0, none⟩ = some (.int .i64 (rw n 0)) := (hE.cells _ _ (by first | exact l0 | (simp; done) | (simp; omega))).trans (by first | exact k0_0 | (go_simp; done)); replace k0_1 : w1.cell? ⟨w.heap.size, 1, none⟩ = some (.int .i64 (rw n 1)) := (hE.cells _ _ (by first | exact l0 | (simp; done) | (simp; omega))).trans (by first | exact k0_1 | (go_simp; done)); replace k0_2 : w1.cell? ⟨w.heap.size, 2, none⟩ = some (.int .i64 (rw n 2)) := (hE.cells _ _ (by first | exact l0 | (simp; done) | (simp; omega))).trans (by first | exact k0_2 | (go_simp; done)); replace k0_3 : w1.cell? ⟨w.heap.size, 3, none⟩ = some (.int .i64 (rw n 3)) := (hE.cells _ _ (by first | exact l0 | (simp; done) | (simp; omega))).trans (by first | exact k0_3 | (go_simp; done)); replace k0_4 : w1.cell? ⟨w.heap.size, 4, none⟩ = some (.int .i64 (rw n 4)) := (hE.cells _ _ (by first | exact l0 | (simp; done) | (simp; omega))).trans (by first | exact k0_4 | (go_simp; done)); replace k0_5 : w1.cell? ⟨w.heap.size, 5, none⟩ = some (.int .i64 (rw n 5)) := (hE.cells _ _ (by first | exact l0 | (simp; done) | (simp; omega))).trans (by first | exact k0_5 | (go_simp; done)); replace k1_0 : w1.cell? ⟨w.heap.size + 1, 0, none⟩ = some (.int .i64 (rw m 0)) := (hE.cells _ _ (by first | exact l1 | (simp; done) | (simp; omega))).trans (by first | exact k1_0 | (go_simp; done)); replace k1_1 : w1.cell? ⟨w.heap.size + 1, 1, none⟩ = some (.int .i64 (rw m 1)) := (hE.cells _ _ (by first | exact l1 | (simp; done) | (simp; omega))).trans (by first | exact k1_1 | (go_simp; done)); replace k1_2 : w1.cell? ⟨w.heap.size + 1, 2, none⟩ = some (.int .i64 (rw m 2)) := (hE.cells _ _ (by first | exact l1 | (simp; done) | (simp; omega))).trans (by first | exact k1_2 | (go_simp; done)); replace k1_3 : w1.cell? ⟨w.heap.size + 1, 3, none⟩ = some (.int .i64 (rw m 3)) := (hE.cells _ _ (by first | exact l1 | (simp; done) | (simp; omega))).trans (by first | exact k1_3 | (go_simp; done)); replace k1_4 : w1.cell? ⟨w.heap.size + 1, 4, none⟩ = some (.int .i64 (rw m 4)) := (hE.cells _ _ (by first | exact l1 | (simp; done) | (simp; omega))).trans (by first | exact k1_4 | (go_simp; done)); replace k1_5 : w1.cell? ⟨w.heap.size + 1, 5, none⟩ = some (.int .i64 (rw m 5)) := (hE.cells _ _ (by first | exact l1 | (simp; done) | (simp; omega))).trans (by first | exact k1_5 | (go_simp; done)); replace l0 : w.heap.size < w1.heap.size := Nat.lt_of_lt_of_le (by first | exact l0 | (simp; done) | (simp; omega)) hE.size; replace l1 : w.heap.size + 1 < w1.heap.size := Nat.lt_of_lt_of_le (by first | exact l1 | (simp; done) | (simp; omega)) hE.size; have HW := Lib.hid ho; clear ho) | (go_at_call 133; refine (HA.out _ _ _ HW.out).mono ?_; rintro e w1 ⟨rfl, hE⟩))
  go_returns
  exact ⟨rfl, (by (repeat' (first | (with_reducible exact Ext.refl _) | (with_reducible assumption) | (with_reducible refine Ext.alloc ?_ _) | (with_reducible refine Ext.drew ?_) | (with_reducible refine Ext.drewN ?_ _) | (with_reducible refine Ext.setCell ?_ ?_ _) | (with_reducible refine Ext.trans ?_ (by assumption)))) <;> (first | (with_reducible assumption) | omega | (simp; done) | (simp; omega)))⟩
end Go.Proofs.Ytlifhoajamnehaa
set_option linter.unusedVariables false
set_option linter.unusedSimpArgs false
set_option maxRecDepth 100000
set_option maxHeartbeats 4000000
namespace Go.Proofs.Ytlifhoajamnehaa
open Go Go.RowKit Instr
theorem aT_sum {f : Nat → Nat} (hf : ∀ k, f k < 68719476736) (s : Nat) : ∀ (O : List Nat) (z : Nat), (∀ k, k ∈ O → cnt (f k) = s) → aT f O z * s ≤ cnt z
  | [], z, _ => by simp [aT]
  | k :: O, z, h => by
    have i1 := aT_sum hf s O z fun j hj => h j (List.mem_cons_of_mem _ hj)
    have i2 := aT_sum hf s O (mns z (f k)) fun j hj => h j (List.mem_cons_of_mem _ hj)
    have hk := h k List.mem_cons_self
    rw [aT]
    by_cases hp : prt (f k) z = true
    · rw [if_pos hp]
      have hc := cnt_mns z (hf k) hp
      have e : (1 + aT f O (mns z (f k))) * s = s + aT f O (mns z (f k)) * s := by rw [Nat.add_mul, Nat.one_mul]
      rcases Nat.le_total (aT f O z) (1 + aT f O (mns z (f k))) with hle | hle
      · rw [Nat.max_eq_right hle, e]; omega
      · rw [Nat.max_eq_left hle]; exact i1
    · rw [if_neg hp, Nat.max_eq_left (Nat.zero_le _)]; exact i1
theorem til_aT {f : Nat → Nat} : ∀ (O S : List Nat) (z : Nat), S.Sublist O → Til f S z → S.length ≤ aT f O z
  | [], S, z, hs, _ => by rw [List.sublist_nil.1 hs]; exact Nat.zero_le _
  | k :: O, S, z, hs, h => by
    rw [aT]
    cases hs with
    | cons _ hs => exact Nat.le_trans (til_aT O S z hs h) (Nat.le_max_left _ _)
    | cons_cons _ hs =>
      obtain ⟨hp, h2⟩ := h
      have i := til_aT O _ _ hs h2
      rw [if_pos hp, List.length_cons]
      exact Nat.le_trans (by omega) (Nat.le_max_right _ _)
theorem til_cnt {f : Nat → Nat} (hf : ∀ k, f k < 68719476736) (s : Nat) : ∀ (S : List Nat) (z : Nat), Til f S z → (∀ k, k ∈ S → cnt (f k) = s) → S.length * s = cnt z
  | [], z, h, _ => by rw [show z = 0 from h]; simp; decide
  | k :: S, z, h, hc => by
    obtain ⟨hp, h2⟩ := h
    have i := til_cnt hf s S _ h2 fun j hj => hc j (List.mem_cons_of_mem _ hj)
    have h3 := cnt_mns z (hf k) hp
    rw [hc k List.mem_cons_self] at h3
    rw [List.length_cons, Nat.add_mul, Nat.one_mul]
    omega
theorem til_step {f : Nat → Nat} (hf : ∀ k, f k < 68719476736) {N z m k : Nat} (hN : N < 68719476736) (hz : z < 68719476736) (hp : prt (f k) z = true) (h0 : N &&& z = 0) (h1 : N ||| z = m) :
    N &&& f k = 0 ∧ (N ||| f k) &&& mns z (f k) = 0 ∧ (N ||| f k) ||| mns z (f k) = m := by
  have hs := (prt_iff z (hf k)).1 hp
  have h0b : ∀ q, N.testBit q = true → z.testBit q = false := fun q hq => by
    have := congrArg (fun t => t.testBit q) h0
    simp only [Nat.testBit_and, hq, Bool.true_and, Nat.zero_testBit] at this
    exact this
  have ho : N ||| f k < 68719476736 := or36 hN (hf k)
  refine ⟨ext36 (and36 _ hN) (by omega) fun q hq => ?_, ext36 (and36 _ ho) (by omega) fun q hq => ?_, ?_⟩
  · rw [Nat.testBit_and, Nat.zero_testBit]
    cases hb : (f k).testBit q
    · rw [Bool.and_false]
    · cases hn : N.testBit q
      · rfl
      · have h2 := hs q hq hb
        rw [h0b q hn] at h2; cases h2
  · rw [Nat.testBit_and, Nat.testBit_or, testBit_mns z _ q hq, Nat.zero_testBit]
    cases hb : (f k).testBit q
    · cases hn : N.testBit q
      · rfl
      · rw [h0b q hn]; rfl
    · simp
  · rw [← h1]
    refine ext36 (or36 ho (mns_lt _ hz)) (or36 hN hz) fun q hq => ?_
    rw [Nat.testBit_or, Nat.testBit_or, Nat.testBit_or, testBit_mns z _ q hq]
    cases hb : (f k).testBit q
    · cases N.testBit q <;> cases z.testBit q <;> rfl
    · rw [hs q hq hb]; cases N.testBit q <;> rfl
/-- what the law wants of a tiling -/
def TdOk (a b : Nat → Int) (T : List Nat) (size whole : Nat) : Prop :=
  ∃ (f : Nat → Nat) (m : Nat), (∀ k, f k < 68719476736) ∧ m < 68719476736 ∧ eqS (rw m) b = true ∧ Til f T m ∧ (∀ i k : Nat, T[i]? = some k → k < 36) ∧ ((T.length : Int) * (size : Int) = (whole : Int)) ∧
    ∀ k : Nat, k < 36 → Cl 28 #[(.agg #[.int .i64 (a 0), .int .i64 (a 1), .int .i64 (a 2), .int .i64 (a 3), .int .i64 (a 4), .int .i64 (a 5)]), .int .i64 ((k % 6 : Nat) : Int), .int .i64 ((k / 6 : Nat) : Int)] (.tuple #[(.agg #[.int .i64 (rw (f k) 0), .int .i64 (rw (f k) 1), .int .i64 (rw (f k) 2), .int .i64 (rw (f k) 3), .int .i64 (rw (f k) 4), .int .i64 (rw (f k) 5)]), .bool true])
theorem tdF1 (a b : Nat → Int) (ha : Shy a) (hb : Shy b) : ∃ (many ap tn : Nat) (T : List Nat) (ok one : Bool), T.length = tn ∧ tn ≤ 36 ∧ many ≤ 68719476736 ∧ ap ≤ 36 ∧
    (Cl 68 #[(.agg #[.int .i64 (a 0), .int .i64 (a 1), .int .i64 (a 2), .int .i64 (a 3), .int .i64 (a 4), .int .i64 (a 5)]), (.agg #[.int .i64 (b 0), .int .i64 (b 1), .int .i64 (b 2), .int .i64 (b 3), .int .i64 (b 4), .int .i64 (b 5)])] (.tuple #[.int .i64 (many : Int), .bool ok]) ∧ Cl 69 #[(.agg #[.int .i64 (a 0), .int .i64 (a 1), .int .i64 (a 2), .int .i64 (a 3), .int .i64 (a 4), .int .i64 (a 5)]), (.agg #[.int .i64 (b 0), .int .i64 (b 1), .int .i64 (b 2), .int .i64 (b 3), .int .i64 (b 4), .int .i64 (b 5)])] (.tuple #[.int .i64 (many : Int), .bool ok])) ∧
    (ClT 62 #[(.agg #[.int .i64 (a 0), .int .i64 (a 1), .int .i64 (a 2), .int .i64 (a 3), .int .i64 (a 4), .int .i64 (a 5)]), (.agg #[.int .i64 (b 0), .int .i64 (b 1), .int .i64 (b 2), .int .i64 (b 3), .int .i64 (b 4), .int .i64 (b 5)])] 33 2 tn (pxy T) one ∧ ClT 60 #[(.agg #[.int .i64 (a 0), .int .i64 (a 1), .int .i64 (a 2), .int .i64 (a 3), .int .i64 (a 4), .int .i64 (a 5)]), (.agg #[.int .i64 (b 0), .int .i64 (b 1), .int .i64 (b 2), .int .i64 (b 3), .int .i64 (b 4), .int .i64 (b 5)])] 33 2 tn (pxy T) one) ∧
    (Cl 71 #[(.agg #[.int .i64 (a 0), .int .i64 (a 1), .int .i64 (a 2), .int .i64 (a 3), .int .i64 (a 4), .int .i64 (a 5)]), (.agg #[.int .i64 (b 0), .int .i64 (b 1), .int .i64 (b 2), .int .i64 (b 3), .int .i64 (b 4), .int .i64 (b 5)])] (.tuple #[.int .i64 (ap : Int), .bool ok]) ∧ Cl 72 #[(.agg #[.int .i64 (a 0), .int .i64 (a 1), .int .i64 (a 2), .int .i64 (a 3), .int .i64 (a 4), .int .i64 (a 5)]), (.agg #[.int .i64 (b 0), .int .i64 (b 1), .int .i64 (b 2), .int .i64 (b 3), .int .i64 (b 4), .int .i64 (b 5)])] (.tuple #[.int .i64 (ap : Int), .bool ok])) ∧
    ((ok = false ∧ one = false) ∨
      (ok = true ∧ one = false ∧ many = 0 ∧ ∃ size whole P : Nat, Cl 44 #[(.agg #[.int .i64 (a 0), .int .i64 (a 1), .int .i64 (a 2), .int .i64 (a 3), .int .i64 (a 4), .int .i64 (a 5)])] (.tuple #[.int .i64 (size : Int), .bool true]) ∧ Cl 44 #[(.agg #[.int .i64 (b 0), .int .i64 (b 1), .int .i64 (b 2), .int .i64 (b 3), .int .i64 (b 4), .int .i64 (b 5)])] (.tuple #[.int .i64 (whole : Int), .bool true]) ∧ (ap : Int) * (size : Int) = (P : Int) ∧ P ≤ whole ∧ whole ≤ 36) ∨
      (ok = true ∧ one = true ∧ 0 < many ∧ ∃ size whole : Nat, Cl 44 #[(.agg #[.int .i64 (a 0), .int .i64 (a 1), .int .i64 (a 2), .int .i64 (a 3), .int .i64 (a 4), .int .i64 (a 5)])] (.tuple #[.int .i64 (size : Int), .bool true]) ∧ Cl 44 #[(.agg #[.int .i64 (b 0), .int .i64 (b 1), .int .i64 (b 2), .int .i64 (b 3), .int .i64 (b 4), .int .i64 (b 5)])] (.tuple #[.int .i64 (whole : Int), .bool true]) ∧ (ap : Int) * (size : Int) = (whole : Int) ∧ whole ≤ 36 ∧ TdOk a b T size whole)) := by
  cases h : tiB a b
  · exact ⟨0, 0, 0, [], false, false, rfl, by omega, by omega, by omega, ⟨fun w => CountTilings_bad a b h w, fun w => sCountTilings_bad a b h w⟩, ⟨fun w => FirstTiling_bad a b h w, fun w => sFirstTiling_bad a b h w⟩, ⟨fun w => MostApart_bad a b h w, fun w => sMostApart_bad a b h w⟩, .inl ⟨rfl, rfl⟩⟩
  · have hv := h
    unfold tiB at hv
    obtain ⟨h12, _⟩ := Bool.and_eq_true_iff.1 hv
    obtain ⟨h1, h2⟩ := Bool.and_eq_true_iff.1 h12
    rcases ha with ha | ⟨n, hn, rfl⟩
    · rw [ha] at h1; cases h1
    rcases hb with hb | ⟨m, hm, rfl⟩
    · rw [hb] at h2; cases h2
    rw [tiB_rw hn hm] at h
    have h0 : n ≠ 0 := of_decide_eq_true (Bool.and_eq_true_iff.1 h).1
    have hf := pr6_lt n
    have hf0 := pr6_ne hn h0
    have hcf : ∀ k, k < 36 → cnt (pr6 n k) = cnt n := fun k hk => cnt_sh n (k % 6) (k / 6) (by omega) (by omega)
    have hO : ∀ k, k ∈ fl (opP n m) 36 → k < 36 := fun k hk => ((mem_flT _ _ _).1 hk).1
    have hct := cT_le (pr6 n) (fl (opP n m) 36) m
    have hpw : 2 ^ (fl (opP n m) 36).length ≤ 68719476736 := Nat.le_trans (Nat.pow_le_pow_right (by omega) (fl_le _ _)) (by decide)
    have hap := aT_le (pr6 n) (fl (opP n m) 36) m
    have hfl := fl_le (opP n m) 36
    have hsum := aT_sum hf (cnt n) (fl (opP n m) 36) m fun k hk => hcf k (hO k hk)
    have hm36 := cnt_le m
    have hlen := tl_len (pr6 n) hf hf0 (fl (opP n m) 36) m []
    cases hT : (tl (pr6 n) (fl (opP n m) 36) m []).head? with
    | none =>
      have hF := FirstTiling_ok n m hn hm h none hT.symm
      have hS := sFirstTiling_ok n m hn hm h none hT.symm
      have e0 : cT (pr6 n) (fl (opP n m) 36) m = 0 := by
        rw [← hlen, List.head?_eq_none_iff.1 hT]; rfl
      refine ⟨_, _, 0, [], true, false, rfl, by omega, by omega, by omega, ⟨fun w => CountTilings_ok n m hn hm h w, fun w => sCountTilings_ok n m hn hm h w⟩, ⟨hF, hS⟩, ⟨fun w => MostApart_ok n m hn hm h w, fun w => sMostApart_ok n m hn hm h w⟩, .inr (.inl ⟨rfl, rfl, e0, _, _, aT (pr6 n) (fl (opP n m) 36) m * cnt n, fun w => SizeOf_ok n hn w, fun w => SizeOf_ok m hm w, (Int.natCast_mul _ _).symm, hsum, hm36⟩)⟩
    | some T =>
      have hF := FirstTiling_ok n m hn hm h (some T) hT.symm
      have hS := sFirstTiling_ok n m hn hm h (some T) hT.symm
      obtain ⟨hlim, hl36⟩ := tl_mem hT
      have hmem := List.mem_of_mem_head? hT
      obtain ⟨S, e, hsub, htil⟩ := tl_til _ m [] T hmem
      rw [List.nil_append] at e
      subst e
      have hpos : 0 < cT (pr6 n) (fl (opP n m) 36) m := by
        rw [← hlen]; exact List.length_pos_of_mem hmem
      have hcS : ∀ k, k ∈ T → cnt (pr6 n k) = cnt n := fun k hk => hcf k (hO k (hsub.subset hk))
      have hq := til_cnt hf (cnt n) T m htil hcS
      have hge := Nat.mul_le_mul_right (cnt n) (til_aT _ T m hsub htil)
      have heq : aT (pr6 n) (fl (opP n m) 36) m * cnt n = cnt m := by omega
      refine ⟨_, _, T.length, T, true, true, rfl, hl36, by omega, by omega, ⟨fun w => CountTilings_ok n m hn hm h w, fun w => sCountTilings_ok n m hn hm h w⟩, ⟨hF, hS⟩, ⟨fun w => MostApart_ok n m hn hm h w, fun w => sMostApart_ok n m hn hm h w⟩, .inr (.inr ⟨rfl, rfl, hpos, _, _, fun w => SizeOf_ok n hn w, fun w => SizeOf_ok m hm w, by rw [← heq]; exact (Int.natCast_mul _ _).symm, hm36,
        pr6 n, m, hf, hm, eqS_same _, htil, hlim, by rw [← hq]; exact (Int.natCast_mul _ _).symm, fun k hk w => ?_⟩)⟩
      have := ShiftSheet_ok n hn ((k % 6 : Nat) : Int) ((k / 6 : Nat) : Int) w
      rw [show m6 ((k % 6 : Nat) : Int) = k % 6 by unfold m6; omega, show m6 ((k / 6 : Nat) : Int) = k / 6 by unfold m6; omega] at this
      exact this
end Go.Proofs.Ytlifhoajamnehaa
set_option linter.unusedVariables false
set_option linter.unusedSimpArgs false
set_option maxRecDepth 100000
set_option maxHeartbeats 1000000
namespace Go.Proofs.Ytlifhoajamnehaa
open Go Go.RowKit
/-! what a law keeps of its own sheets from call to call -/
def Kp (w : World) (b : Nat) (g : Nat → Int) : Prop := Arr w b g ∧ b < w.heap.size
theorem Kp.ext {w w' : World} {b : Nat} {g : Nat → Int} (h : Kp w b g) (hx : Ext w w') : Kp w' b g := ⟨h.1.ext hx h.2, Nat.lt_of_lt_of_le h.2 hx.size⟩
theorem Kp.c6 {w : World} {b : Nat} {g : Nat → Int} (h : Kp w b g) : b < w.heap.size ∧ w.cell? ⟨b, 0, none⟩ = some (.int .i64 (g 0)) ∧ w.cell? ⟨b, 1, none⟩ = some (.int .i64 (g 1)) ∧ w.cell? ⟨b, 2, none⟩ = some (.int .i64 (g 2)) ∧ w.cell? ⟨b, 3, none⟩ = some (.int .i64 (g 3)) ∧ w.cell? ⟨b, 4, none⟩ = some (.int .i64 (g 4)) ∧ w.cell? ⟨b, 5, none⟩ = some (.int .i64 (g 5)) :=
  ⟨h.2, h.1.all.1⟩
theorem Kp.new1 {w w' : World} {T : TypeId} (g : Nat → Int) (h : Ext (w.alloc (.cells #[.int .i64 (g 0), .int .i64 (g 1), .int .i64 (g 2), .int .i64 (g 3), .int .i64 (g 4), .int .i64 (g 5)] T)) w') : Kp w' w.heap.size g :=
  Kp.ext (w := w.alloc (.cells #[.int .i64 (g 0), .int .i64 (g 1), .int .i64 (g 2), .int .i64 (g 3), .int .i64 (g 4), .int .i64 (g 5)] T)) ⟨Arr.new w g T rfl, by simp⟩ h
theorem Kp.new21 {w w' : World} {T : TypeId} {o : Obj} (g : Nat → Int) (h : Ext ((w.alloc (.cells #[.int .i64 (g 0), .int .i64 (g 1), .int .i64 (g 2), .int .i64 (g 3), .int .i64 (g 4), .int .i64 (g 5)] T)).alloc o) w') : Kp w' w.heap.size g := Kp.new1 g (((Ext.refl _).alloc o).trans h)
theorem Kp.new22 {w w' : World} {T : TypeId} {o : Obj} (g : Nat → Int) (h : Ext ((w.alloc o).alloc (.cells #[.int .i64 (g 0), .int .i64 (g 1), .int .i64 (g 2), .int .i64 (g 3), .int .i64 (g 4), .int .i64 (g 5)] T)) w') : Kp w' (w.heap.size + 1) g := by
  have := Kp.new1 g h
  simp at this
  exact this
theorem Kp.new31 {w w' : World} {T : TypeId} {o p : Obj} (g : Nat → Int) (h : Ext (((w.alloc (.cells #[.int .i64 (g 0), .int .i64 (g 1), .int .i64 (g 2), .int .i64 (g 3), .int .i64 (g 4), .int .i64 (g 5)] T)).alloc o).alloc p) w') : Kp w' w.heap.size g := Kp.new21 g (((Ext.refl _).alloc p).trans h)
theorem Kp.new32 {w w' : World} {T : TypeId} {o p : Obj} (g : Nat → Int) (h : Ext (((w.alloc o).alloc (.cells #[.int .i64 (g 0), .int .i64 (g 1), .int .i64 (g 2), .int .i64 (g 3), .int .i64 (g 4), .int .i64 (g 5)] T)).alloc p) w') : Kp w' (w.heap.size + 1) g := Kp.new22 g (((Ext.refl _).alloc p).trans h)
theorem Kp.new33 {w w' : World} {T : TypeId} {o p : Obj} (g : Nat → Int) (h : Ext (((w.alloc o).alloc p).alloc (.cells #[.int .i64 (g 0), .int .i64 (g 1), .int .i64 (g 2), .int .i64 (g 3), .int .i64 (g 4), .int .i64 (g 5)] T)) w') : Kp w' (w.heap.size + 1 + 1) g := by
  have := Kp.new1 g h
  simp at this
  exact this
theorem Ext.link0 {a w w' : World} (h : Ext a w) (k : Ext w w') : Ext w w' := k
theorem Ext.link1 {a w w' : World} {o : Obj} (h : Ext a w) (k : Ext (w.alloc o) w') : Ext w w' := ((Ext.refl w).alloc o).trans k
theorem Ext.link2 {a w w' : World} {o p : Obj} (h : Ext a w) (k : Ext ((w.alloc o).alloc p) w') : Ext w w' := (((Ext.refl w).alloc o).alloc p).trans k
theorem Ext.link3 {a w w' : World} {o p q : Obj} (h : Ext a w) (k : Ext (((w.alloc o).alloc p).alloc q) w') : Ext w w' := ((((Ext.refl w).alloc o).alloc p).alloc q).trans k
end Go.Proofs.Ytlifhoajamnehaa
