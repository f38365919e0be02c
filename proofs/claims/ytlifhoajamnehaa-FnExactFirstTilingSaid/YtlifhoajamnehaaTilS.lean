/- TilS: contracts of functions, and lemmas, for this seat. Conditions: as each states. -/
import Derived.Test.YtlifhoajamnehaaTilL
import Derived.Test.YtlifhoajamnehaaLLs
import Derived.Test.YtlifhoajamnehaaOpens
import Derived.Test.YtlifhoajamnehaaSmall
import Derived.Test.YtlifhoajamnehaaApart
import Derived.Test.YtlifhoajamnehaaAppB
import Derived.Test.YtlifhoajamnehaaNeedM
import Derived.Test.YtlifhoajamnehaaLists
import Derived.Shelf.Spec.SlicesGrow
import Derived.Test.YtlifhoajamnehaaInk
import Derived.Test.YtlifhoajamnehaaCovM
import Derived.Test.YtlifhoajamnehaaBig
import Derived.Test.YtlifhoajamnehaaFrac
set_option linter.unusedVariables false
set_option maxRecDepth 100000
set_option maxHeartbeats 4000000
namespace Go.Proofs.Ytlifhoajamnehaa
open Go Go.RowKit Instr
theorem rw0 (j : Nat) : rw 0 j = 0 := by rw [rw_nat]; unfold rowN; rw [Nat.zero_div]; rfl
theorem eql0 {z : Nat} (hz : z < 68719476736) (b : Bool) (h : decide (z = 0) = b) : ∀ w, (binOp .eql 26 (.agg #[.int .i64 (rw z 0), .int .i64 (rw z 1), .int .i64 (rw z 2), .int .i64 (rw z 3), .int .i64 (rw z 4), .int .i64 (rw z 5)]) (.agg #[.int .i64 0, .int .i64 0, .int .i64 0, .int .i64 0, .int .i64 0, .int .i64 0])).run Try.prog w = .ok (.bool b) w := by
  have e := eql_is (rw z) (rw 0) b (by rw [eqS_rw hz (by omega)]; exact h)
  simp only [rw0] at e
  exact e
theorem arr_grow {w w' : World} {b : Nat} {g : Nat → Int} {row : Option Nat} (h : Arr w b g) (hg : w.grownBy w' row) (hb : b < w.heap.size) (hne : some b ≠ row) : Arr w' b g := fun j hj =>
  ⟨(World.cell?_of_block (a := ⟨b, j, none⟩) (hg.block b hb hne)).trans (h j hj).1, (World.frozen?_of_block (a := ⟨b, j, none⟩) (hg.block b hb hne)).trans (h j hj).2⟩
theorem l6Tilings_n (n : Nat) (hn : n < 68719476736) (h0 : n ≠ 0) : ∀ (N : Nat) (O : List Nat), O.length < N → (∀ (i k : Nat), O[i]? = some k → k < 36) → O.length ≤ 36 → ∀ (z : Nat), z < 68719476736 → ∀ (D : List Nat), D.length + cnt z ≤ 36 → ∀ (v u : Value) (w : World), RawL w v O → Inn w u D →
    Calls Try.prog 120 #[(.agg #[.int .i64 (rw n 0), .int .i64 (rw n 1), .int .i64 (rw n 2), .int .i64 (rw n 3), .int .i64 (rw n 4), .int .i64 (rw n 5)]), (.agg #[.int .i64 (rw z 0), .int .i64 (rw z 1), .int .i64 (rw z 2), .int .i64 (rw z 3), .int .i64 (rw z 4), .int .i64 (rw z 5)]), v, u] w fun e w' => ∃ r, e = .returned r ∧ Ext w w' ∧ LLs w' w.heap.size r (tl (pr6 n) O z D)
  | 0, O, hN, _, _, _, _, _, _, _, _, _, _, _ => absurd hN (Nat.not_lt_zero _)
  | N + 1, O, hN, hG, hlen, z, hz, D, hD, v, u, w, hr, hu => by
    have IH := Lib.hid (l6Tilings_n n hn h0 N)
    have hf := pr6_lt n
    have hf0 := pr6_ne hn h0
    obtain ⟨i0, hi, iz0, iz1, iz2⟩ := info_parts info_two
    obtain ⟨s0, si, sz0, sz1, sz2⟩ := info_parts info_sl
    obtain ⟨ao, cap, rfl, hcap, hsh⟩ := hr
    have HIN := Lib.hid hu
    obtain ⟨ub, uo, uc, ucur, rfl, huc, hub, _⟩ := hu
    have hul := row_lt hub
    have HS := Lib.hid hsh
    have HG := Lib.hid hG
    clear hG hsh hub
    by_cases hz0 : z = 0
    · subst hz0
      rw [tl_0]
      have ez := eql0 hz true rfl
      skip
      go_enter Try.func120, Try.ntmps120
      have HC1 := Lib.hid (inn_cells HIN.out).2
      have HC2 := Lib.hid (pxy_length D)
      have HC3 := Lib.hid (pxy_ones D)
      have HOE := Lib.hid (own_empty ((w.alloc (.cells #[.int .i64 (rw n 0), .int .i64 (rw n 1), .int .i64 (rw n 2), .int .i64 (rw n 3), .int .i64 (rw n 4), .int .i64 (rw n 5)] 26)).alloc (.cells #[.int .i64 (rw 0 0), .int .i64 (rw 0 1), .int .i64 (rw 0 2), .int .i64 (rw 0 3), .int .i64 (rw 0 4), .int .i64 (rw 0 5)] 26)) 28 1 w.heap.size (by simp; omega) (b := w.heap.size + 1 + 1) (by simp))
      go_wp2_with (first | (at_builtin; refine wpList_append_new (by rfl) _ _ 28 (by rfl) 33 i0 (.agg #[.int .i64 0, .int .i64 0]) 2 16 Try.underlying28 hi iz0 iz1 iz2 (by rfl) (by decide) (w.heap.size + 1 + 1 + 1) (by rfl) (own_empty _ 33 2 _ (by simp) (by simp)) ⟨ub, uo, none⟩ D.length uc (by rfl) (pxy D) (fun j u h => by rw [Go.WideShapes.add_plain]; have h1 := HC1.out j u h; rw [Go.WideShapes.add_plain] at h1; exact (((((((Ext.refl w).alloc _).alloc _).alloc _).alloc _)).cells ub _ hul).trans h1) HC2.out HC3.out (by unfold maxLen; omega) (by omega) w.heap.size (by omega) ?_; intro b1 c1 w1 hE1 hown1; have HI1 := Lib.hid (show OwnI w.heap.size _ _ D from ⟨⟨_, _, rfl⟩, hown1⟩); have HO2 := Lib.hid (own_ext (own_ext HOE.out ((Ext.refl _).alloc (.cells #[] 33))) hE1); have HX1 := Lib.hid ((by (repeat' (first | (with_reducible exact Ext.refl _) | (with_reducible assumption) | (with_reducible refine Ext.alloc ?_ _) | (with_reducible refine Ext.drew ?_) | (with_reducible refine Ext.drewN ?_ _) | (with_reducible refine Ext.setCell ?_ ?_ _) | (with_reducible refine Ext.trans ?_ (by assumption)))) <;> (first | (with_reducible assumption) | omega | (simp; done) | (simp; omega))) : Ext w w1); obtain ⟨wp, rfl⟩ : ∃ x, x = w1 := ⟨_, rfl⟩) | (at_builtin; refine wpList_append_own _ (by rfl) _ _ 119 (by rfl) w.heap.size 28 s0 (.slice none 0 0) 1 24 Try.underlying119 si sz0 sz1 sz2 (by rfl) (by decide) _ _ _ (by rfl) (HO2.out.alloc _) ⟨_, 0, none⟩ 1 1 [.slice (some ⟨b1, 0, none⟩) D.length c1] (by rfl) (by rfl) one_cell (by simp [Value.oneCell']) (by unfold maxLen; omega) (by omega) (by have := HX1.out.size; simp; omega) ?_; intro v1 w2 hown hgrow _))
      have HP := Lib.hid (own_push HX1.out (Nat.le_refl _) HO2.out hgrow).1
      have HIn := Lib.hid (owni_grown (owni_ext HI1.out ((Ext.refl wp).alloc (.cells #[.slice (some ⟨b1, 0, none⟩) D.length c1] 28))) (HO2.out.alloc _) hgrow)
      go_returns
      exact ⟨_, rfl, HP.out, [.slice (some ⟨b1, 0, none⟩) D.length c1], hown, llv_one HIn.out⟩
    · have ez := eql0 hz false (decide_eq_false hz0)
      have HTL := Lib.hid (tl_len (pr6 n) hf hf0 O z D)
      have HCT := Lib.hid (cT_le (pr6 n) O z)
      have HA0 := Lib.hid (tA_0 (pr6 n) O z D)
      have HAS := Lib.hid (fun (i k : Nat) (h : O[i]? = some k) => tA_s (pr6 n) O z D h)
      have HAA := Lib.hid (tA_all (pr6 n) O hz0 D)
      have HAL := Lib.hid (fun i (h : i ≤ O.length) => tA_le (pr6 n) O hz0 D h)
      skip
      go_enter Try.func120, Try.ntmps120
      go_wp2
      go_loopw [9, 10] (fun o i wr => ∃ j : Nat, j ≤ O.length ∧ i = .int .i64 j ∧ Ext w wr ∧ Arr wr w.heap.size (rw n) ∧ Arr wr (w.heap.size + 1) (rw z) ∧ w.heap.size + 2 < wr.heap.size ∧ LLs wr (w.heap.size + 2) o (tA (pr6 n) O z D j)) (fun _ i _ => O.length - (intOf i).toNat)
      case atStart => exact ⟨0, Nat.zero_le _, rfl, (by (repeat' (first | (with_reducible exact Ext.refl _) | (with_reducible assumption) | (with_reducible refine Ext.alloc ?_ _) | (with_reducible refine Ext.drew ?_) | (with_reducible refine Ext.drewN ?_ _) | (with_reducible refine Ext.setCell ?_ ?_ _) | (with_reducible refine Ext.trans ?_ (by assumption)))) <;> (first | (with_reducible assumption) | omega | (simp; done) | (simp; omega))), ((Arr.new w (rw n) _ rfl).alloc _ (by simp)).alloc _ (by first | (simp; done) | (simp; omega)), (Arr.new _ (rw z) _ (by simp)).alloc _ (by simp), by simp, by rw [HA0.out]; exact ⟨[], own_empty _ 28 1 _ (by simp) (by simp), llv_nil _ _⟩⟩
      case round =>
        obtain ⟨j, hj, rfl, hx, ha, hb, hz2, hll⟩ := hrel
        obtain ⟨wo, rfl⟩ : ∃ wo : World, wo = wr := ⟨_, rfl⟩
        have HA := Lib.hid ha
        have HB := Lib.hid hb
        have HLL := Lib.hid hll
        clear ha hb hll
        obtain ⟨vs, hown, _⟩ := HLL.out
        obtain ⟨oo, oc, rfl, _⟩ := own_shape hown
        clear hown
        have za : w.heap.size < wo.heap.size := by omega
        have zb : w.heap.size + 1 < wo.heap.size := by omega
        by_cases hlt : j < O.length
        · obtain ⟨b, o, rfl, hbw, hcl⟩ := HS.out (by omega)
          obtain ⟨k, hk⟩ : ∃ k, O[j]? = some k := ⟨O[j], List.getElem?_eq_getElem hlt⟩
          have hk36 := HG.out j k hk
          have hsz := hx.size
          have hvo : b < wo.heap.size := by omega
          have hdec : O.length - (j + 1) < O.length - j := by omega
          have p1 := (hx.cells _ _ hbw).trans (hcl j k hk).1
          have p2 := (hx.cells _ _ hbw).trans (hcl j k hk).2
          have HC := Lib.hid hcl
          have HD := Lib.hid (HAS.out j k hk)
          have hK := hf k
          have HT := Lib.hid (show ∀ w, Calls Try.prog 154 #[(.agg #[.int .i64 (rw n 0), .int .i64 (rw n 1), .int .i64 (rw n 2), .int .i64 (rw n 3), .int .i64 (rw n 4), .int .i64 (rw n 5)]), (.agg #[.int .i64 (((k % 6 : Nat) : Int)), .int .i64 (((k / 6 : Nat) : Int))])] w fun e w' => e = .returned (.agg #[.int .i64 (rw (pr6 n k) 0), .int .i64 (rw (pr6 n k) 1), .int .i64 (rw (pr6 n k) 2), .int .i64 (rw (pr6 n k) 3), .int .i64 (rw (pr6 n k) 4), .int .i64 (rw (pr6 n k) 5)]) ∧ Ext w w' from fun w => l2At_n n (k % 6) (k / 6) (by omega) (by omega) w)
          have HP := Lib.hid (fun c (hc : prt (pr6 n k) z = c) w => l2Part_n (pr6 n k) z hK c hc w)
          have Q := Lib.hid (show pxy [k] = [.int .i64 ((k % 6 : Nat) : Int), .int .i64 ((k / 6 : Nat) : Int)] from rfl)
          obtain ⟨⟨c0, c1, c2, c3, c4, c5⟩, _⟩ := HA.out.all
          obtain ⟨⟨e0, e1, e2, e3, e4, e5⟩, _⟩ := HB.out.all
          clear hcl hk
          generalize k % 6 = kx at *
          generalize k / 6 = ky at *
          skip
          go_wp2
          refine wp_perm [(0, true), (1, true), (2, true), (3, true), (4, true), (5, true), (6, false), (7, false)] [] (by kernel_rfl) (by kernel_rfl) ?_; simp only [pickO, pickT, List.getElem?_cons_succ, List.getElem?_cons_zero]; intro hgr; (refine walkP_step (fun K hK => ?_); go_simp; (try (go_ints; try go_simp)); first | (refine hK _ ?_; clear hK K) | (apply Exists.intro; refine ⟨fun _ => ?_, hK _ ?_⟩; ((go_at_call 154; exact (HT.out _))); clear hK K) | (simp only [↓IntWalk.iteOmega]; (try go_simp); (try (go_ints; try go_simp)); first | (refine hK _ ?_; clear hK K) | (apply Exists.intro; refine ⟨fun _ => ?_, hK _ ?_⟩; ((go_at_call 154; exact (HT.out _))); clear hK K))); (refine walkP_step (fun K hK => ?_); go_simp; (try (go_ints; try go_simp)); first | (refine hK _ ?_; clear hK K) | (apply Exists.intro; refine ⟨fun _ => ?_, hK _ ?_⟩; ((go_at_call 154; exact (HT.out _))); clear hK K) | (simp only [↓IntWalk.iteOmega]; (try go_simp); (try (go_ints; try go_simp)); first | (refine hK _ ?_; clear hK K) | (apply Exists.intro; refine ⟨fun _ => ?_, hK _ ?_⟩; ((go_at_call 154; exact (HT.out _))); clear hK K))); (refine walkP_step (fun K hK => ?_); go_simp; (try (go_ints; try go_simp)); first | (refine hK _ ?_; clear hK K) | (apply Exists.intro; refine ⟨fun _ => ?_, hK _ ?_⟩; ((go_at_call 154; exact (HT.out _))); clear hK K) | (simp only [↓IntWalk.iteOmega]; (try go_simp); (try (go_ints; try go_simp)); first | (refine hK _ ?_; clear hK K) | (apply Exists.intro; refine ⟨fun _ => ?_, hK _ ?_⟩; ((go_at_call 154; exact (HT.out _))); clear hK K))); (refine walkP_step (fun K hK => ?_); go_simp; (try (go_ints; try go_simp)); first | (refine hK _ ?_; clear hK K) | (apply Exists.intro; refine ⟨fun _ => ?_, hK _ ?_⟩; ((go_at_call 154; exact (HT.out _))); clear hK K) | (simp only [↓IntWalk.iteOmega]; (try go_simp); (try (go_ints; try go_simp)); first | (refine hK _ ?_; clear hK K) | (apply Exists.intro; refine ⟨fun _ => ?_, hK _ ?_⟩; ((go_at_call 154; exact (HT.out _))); clear hK K))); (refine walkP_step (fun K hK => ?_); go_simp; (try (go_ints; try go_simp)); first | (refine hK _ ?_; clear hK K) | (apply Exists.intro; refine ⟨fun _ => ?_, hK _ ?_⟩; ((go_at_call 154; exact (HT.out _))); clear hK K) | (simp only [↓IntWalk.iteOmega]; (try go_simp); (try (go_ints; try go_simp)); first | (refine hK _ ?_; clear hK K) | (apply Exists.intro; refine ⟨fun _ => ?_, hK _ ?_⟩; ((go_at_call 154; exact (HT.out _))); clear hK K))); (refine walkP_step (fun K hK => ?_); go_simp; (try (go_ints; try go_simp)); first | (refine hK _ ?_; clear hK K) | (apply Exists.intro; refine ⟨fun _ => ?_, hK _ ?_⟩; ((go_at_call 154; exact (HT.out _))); clear hK K) | (simp only [↓IntWalk.iteOmega]; (try go_simp); (try (go_ints; try go_simp)); first | (refine hK _ ?_; clear hK K) | (apply Exists.intro; refine ⟨fun _ => ?_, hK _ ?_⟩; ((go_at_call 154; exact (HT.out _))); clear hK K))); refine walkP_new (#[.int .i64 0, .int .i64 0, .int .i64 0, .int .i64 0, .int .i64 0, .int .i64 0], 26) rfl (fun W' => by go_simp) (fun v => ?_); refine walkP_fill rfl (fill_store (cs := #[.int .i64 (rw (pr6 n k) 0), .int .i64 (rw (pr6 n k) 1), .int .i64 (rw (pr6 n k) 2), .int .i64 (rw (pr6 n k) 3), .int .i64 (rw (pr6 n k) 4), .int .i64 (rw (pr6 n k) 5)]) rfl rfl rfl rfl (by kernel_rfl) (by simp [Value.oneCell'])) ?_; refine walkP_nil ?_; clear hgr; intro w1 hE hF; obtain ⟨_, bK, rfl, hb, hR⟩ := hF; have k0_0 : w1.cell? ⟨bK, 0, none⟩ = some (.int .i64 (rw (pr6 n k) 0)) := row_cell hR 0; have k0_1 : w1.cell? ⟨bK, 1, none⟩ = some (.int .i64 (rw (pr6 n k) 1)) := row_cell hR 1; have k0_2 : w1.cell? ⟨bK, 2, none⟩ = some (.int .i64 (rw (pr6 n k) 2)) := row_cell hR 2; have k0_3 : w1.cell? ⟨bK, 3, none⟩ = some (.int .i64 (rw (pr6 n k) 3)) := row_cell hR 3; have k0_4 : w1.cell? ⟨bK, 4, none⟩ = some (.int .i64 (rw (pr6 n k) 4)) := row_cell hR 4; have k0_5 : w1.cell? ⟨bK, 5, none⟩ = some (.int .i64 (rw (pr6 n k) 5)) := row_cell hR 5; have l0 : bK < w1.heap.size := row_lt hR; clear hR hb
          replace hE : Ext wo w1 := ((Ext.refl wo).drew).trans hE
          have hs1 := hE.size
          have HA1 := Lib.hid (HA.out.ext hE za)
          have HB1 := Lib.hid (HB.out.ext hE zb)
          obtain ⟨⟨a0, a1, a2, a3, a4, a5⟩, _⟩ := HA1.out.all
          obtain ⟨⟨b0, b1, b2, b3, b4, b5⟩, _⟩ := HB1.out.all
          have hx1 := hx.trans hE
          have HL1 := Lib.hid (lls_ext HLL.out hE)
          have q1 := (hE.cells _ _ hvo).trans p1
          have q2 := (hE.cells _ _ hvo).trans p2
          clear c0 c1 c2 c3 c4 c5 e0 e1 e2 e3 e4 e5 HA HB p1 p2 HT hE HLL
          obtain ⟨wp, rfl⟩ : ∃ x, x = w1 := ⟨_, rfl⟩
          have ya : w.heap.size < wp.heap.size := by omega
          have yb : w.heap.size + 1 < wp.heap.size := by omega
          have hbwp : b < wp.heap.size := by omega
          cases h2 : prt (pr6 n k) z
          · rw [h2, if_neg (by decide), List.append_nil] at HD
            have HP2 := Lib.hid (HP.out _ h2)
            clear h2 HP
            go_wp2_with (go_at_call 155; refine (HP2.out _).mono ?_; rintro e w1 ⟨rfl, hE⟩)
            have hxe : Ext wp w1 := (by (repeat' (first | (with_reducible exact Ext.refl _) | (with_reducible assumption) | (with_reducible refine Ext.alloc ?_ _) | (with_reducible refine Ext.drew ?_) | (with_reducible refine Ext.drewN ?_ _) | (with_reducible refine Ext.setCell ?_ ?_ _) | (with_reducible refine Ext.trans ?_ (by assumption)))) <;> (first | (with_reducible assumption) | omega | (simp; done) | (simp; omega)))
            have hse := hxe.size
            refine ⟨⟨j + 1, by omega, by go_num, hx1.trans hxe, HA1.out.ext hxe ya, HB1.out.ext hxe yb, by omega, by rw [HD.out]; exact lls_ext HL1.out hxe⟩, by simp [intOf]; first | exact hdec | omega⟩
          · rw [h2, if_pos rfl] at HD
            have HP2 := Lib.hid (HP.out _ h2)
            have HX := Lib.hid (fun w => l2Xor_n z (pr6 n k) w)
            rw [xor_mns hK hz h2] at HX
            have hcl2 := cnt_less0 hK (hf0 k) h2
            have HR := Lib.hid (fun v u w hr hu => IH.out (O.drop (j + 1)) (by rw [List.length_drop]; omega) (fun i k' h => HG.out (j + 1 + i) k' (by rw [List.getElem?_drop] at h; exact h)) (by rw [List.length_drop]; omega) (mns z (pr6 n k)) (mns_lt _ hz) (D ++ [k]) (by rw [List.length_append]; simp; omega) v u w hr hu)
            have hal := HAL.out (j + 1) (by omega)
            rw [HD.out, List.length_append, HTL.out] at hal
            have hcb : cT (pr6 n) O z ≤ 68719476736 := Nat.le_trans HCT.out (Nat.le_trans (Nat.pow_le_pow_right (by omega) hlen) (by decide))
            clear h2 HP HCT HTL HAL
            generalize tl (pr6 n) (O.drop (j + 1)) (mns z (pr6 n k)) (D ++ [k]) = TT at *
            generalize mns z (pr6 n k) = zz at *
            go_wp2_with ((go_at_call 155; refine (HP2.out _).mono ?_; rintro e w1 ⟨rfl, hE⟩); have HA2 := Lib.hid (HA1.out.ext hE ya); have HB2 := Lib.hid (HB1.out.ext hE yb); have HL2 := Lib.hid (lls_ext HL1.out hE); have r1 := (hE.cells _ _ hbwp).trans q1; have r2 := (hE.cells _ _ hbwp).trans q2; skip; replace k0_0 : w1.cell? ⟨bK, 0, none⟩ = some (.int .i64 (rw (pr6 n k) 0)) := (hE.cells _ _ (by first | exact l0 | (simp; done) | (simp; omega))).trans (by first | exact k0_0 | (go_simp; done)); replace k0_1 : w1.cell? ⟨bK, 1, none⟩ = some (.int .i64 (rw (pr6 n k) 1)) := (hE.cells _ _ (by first | exact l0 | (simp; done) | (simp; omega))).trans (by first | exact k0_1 | (go_simp; done)); replace k0_2 : w1.cell? ⟨bK, 2, none⟩ = some (.int .i64 (rw (pr6 n k) 2)) := (hE.cells _ _ (by first | exact l0 | (simp; done) | (simp; omega))).trans (by first | exact k0_2 | (go_simp; done)); replace k0_3 : w1.cell? ⟨bK, 3, none⟩ = some (.int .i64 (rw (pr6 n k) 3)) := (hE.cells _ _ (by first | exact l0 | (simp; done) | (simp; omega))).trans (by first | exact k0_3 | (go_simp; done)); replace k0_4 : w1.cell? ⟨bK, 4, none⟩ = some (.int .i64 (rw (pr6 n k) 4)) := (hE.cells _ _ (by first | exact l0 | (simp; done) | (simp; omega))).trans (by first | exact k0_4 | (go_simp; done)); replace k0_5 : w1.cell? ⟨bK, 5, none⟩ = some (.int .i64 (rw (pr6 n k) 5)) := (hE.cells _ _ (by first | exact l0 | (simp; done) | (simp; omega))).trans (by first | exact k0_5 | (go_simp; done)); replace l0 : bK < w1.heap.size := Nat.lt_of_lt_of_le (by first | exact l0 | (simp; done) | (simp; omega)) hE.size; obtain ⟨wq, rfl⟩ : ∃ x, x = w1 := ⟨_, rfl⟩)
            have hxq : Ext w wq := hx1.trans hE
            have hsq := hE.size
            have hbwq : b < wq.heap.size := by omega
            have xa : w.heap.size < wq.heap.size := by omega
            have xb : w.heap.size + 1 < wq.heap.size := by omega
            obtain ⟨⟨c0, c1, c2, c3, c4, c5⟩, _⟩ := HA2.out.all
            obtain ⟨⟨e0, e1, e2, e3, e4, e5⟩, _⟩ := HB2.out.all
            clear a0 a1 a2 a3 a4 a5 b0 b1 b2 b3 b4 b5 q1 q2 hE
            have HRO := Lib.hid (rawl_drop (i := j + 1) (by omega) hcap hbw HC.out)
            have HC1 := Lib.hid (inn_cells (inn_stable _ _ _ _ hxq HIN.out)).2
            have HC2 := Lib.hid (pxy_length D)
            have HC3 := Lib.hid (pxy_ones D)
            go_wp2
            refine wp_made [(0, true), (1, true), (2, true), (3, true), (4, true), (5, true), (6, true), (7, true), (8, true), (10, true), (12, true), (13, true), (14, true), (15, true)] [(9, []), (11, [9]), (16, [])] [(17, false), (18, false)] [19, 20] (fun i => if i = 9 then Emp wq.heap.size 33 2 else if i = 11 then Rowf wq.heap.size 33 2 D.length (pxy D) else Cel [.int .i64 (kx : Int), .int .i64 (ky : Int)]) (by kernel_rfl) (by kernel_rfl) ?_ ?_
            · intro i x
              split
              · exact emp_stable _ _ _ _
              · split
                · exact rowf_stable _ _ _ _ _ _
                · exact cel_stable _ _
            simp only [pickO, pickT, List.getElem?_cons_succ, List.getElem?_cons_zero]
            intro hgr
            (refine walkP_step (fun K hK => ?_); go_simp; (try (go_ints; try go_simp)); first | (refine hK _ ?_; clear hK K) | (apply Exists.intro; refine ⟨fun _ => ?_, hK _ ?_⟩; ((go_at_call 156; exact (HX.out _))); clear hK K) | (simp only [↓IntWalk.iteOmega]; (try go_simp); (try (go_ints; try go_simp)); first | (refine hK _ ?_; clear hK K) | (apply Exists.intro; refine ⟨fun _ => ?_, hK _ ?_⟩; ((go_at_call 156; exact (HX.out _))); clear hK K))); (refine walkP_step (fun K hK => ?_); go_simp; (try (go_ints; try go_simp)); first | (refine hK _ ?_; clear hK K) | (apply Exists.intro; refine ⟨fun _ => ?_, hK _ ?_⟩; ((go_at_call 156; exact (HX.out _))); clear hK K) | (simp only [↓IntWalk.iteOmega]; (try go_simp); (try (go_ints; try go_simp)); first | (refine hK _ ?_; clear hK K) | (apply Exists.intro; refine ⟨fun _ => ?_, hK _ ?_⟩; ((go_at_call 156; exact (HX.out _))); clear hK K))); (refine walkP_step (fun K hK => ?_); go_simp; (try (go_ints; try go_simp)); first | (refine hK _ ?_; clear hK K) | (apply Exists.intro; refine ⟨fun _ => ?_, hK _ ?_⟩; ((go_at_call 156; exact (HX.out _))); clear hK K) | (simp only [↓IntWalk.iteOmega]; (try go_simp); (try (go_ints; try go_simp)); first | (refine hK _ ?_; clear hK K) | (apply Exists.intro; refine ⟨fun _ => ?_, hK _ ?_⟩; ((go_at_call 156; exact (HX.out _))); clear hK K))); (refine walkP_step (fun K hK => ?_); go_simp; (try (go_ints; try go_simp)); first | (refine hK _ ?_; clear hK K) | (apply Exists.intro; refine ⟨fun _ => ?_, hK _ ?_⟩; ((go_at_call 156; exact (HX.out _))); clear hK K) | (simp only [↓IntWalk.iteOmega]; (try go_simp); (try (go_ints; try go_simp)); first | (refine hK _ ?_; clear hK K) | (apply Exists.intro; refine ⟨fun _ => ?_, hK _ ?_⟩; ((go_at_call 156; exact (HX.out _))); clear hK K))); (refine walkP_step (fun K hK => ?_); go_simp; (try (go_ints; try go_simp)); first | (refine hK _ ?_; clear hK K) | (apply Exists.intro; refine ⟨fun _ => ?_, hK _ ?_⟩; ((go_at_call 156; exact (HX.out _))); clear hK K) | (simp only [↓IntWalk.iteOmega]; (try go_simp); (try (go_ints; try go_simp)); first | (refine hK _ ?_; clear hK K) | (apply Exists.intro; refine ⟨fun _ => ?_, hK _ ?_⟩; ((go_at_call 156; exact (HX.out _))); clear hK K))); (refine walkP_step (fun K hK => ?_); go_simp; (try (go_ints; try go_simp)); first | (refine hK _ ?_; clear hK K) | (apply Exists.intro; refine ⟨fun _ => ?_, hK _ ?_⟩; ((go_at_call 156; exact (HX.out _))); clear hK K) | (simp only [↓IntWalk.iteOmega]; (try go_simp); (try (go_ints; try go_simp)); first | (refine hK _ ?_; clear hK K) | (apply Exists.intro; refine ⟨fun _ => ?_, hK _ ?_⟩; ((go_at_call 156; exact (HX.out _))); clear hK K))); (refine walkP_step (fun K hK => ?_); go_simp; (try (go_ints; try go_simp)); first | (refine hK _ ?_; clear hK K) | (apply Exists.intro; refine ⟨fun _ => ?_, hK _ ?_⟩; ((go_at_call 156; exact (HX.out _))); clear hK K) | (simp only [↓IntWalk.iteOmega]; (try go_simp); (try (go_ints; try go_simp)); first | (refine hK _ ?_; clear hK K) | (apply Exists.intro; refine ⟨fun _ => ?_, hK _ ?_⟩; ((go_at_call 156; exact (HX.out _))); clear hK K))); (refine walkP_step (fun K hK => ?_); go_simp; (try (go_ints; try go_simp)); first | (refine hK _ ?_; clear hK K) | (apply Exists.intro; refine ⟨fun _ => ?_, hK _ ?_⟩; ((go_at_call 156; exact (HX.out _))); clear hK K) | (simp only [↓IntWalk.iteOmega]; (try go_simp); (try (go_ints; try go_simp)); first | (refine hK _ ?_; clear hK K) | (apply Exists.intro; refine ⟨fun _ => ?_, hK _ ?_⟩; ((go_at_call 156; exact (HX.out _))); clear hK K))); (refine walkP_step (fun K hK => ?_); go_simp; (try (go_ints; try go_simp)); first | (refine hK _ ?_; clear hK K) | (apply Exists.intro; refine ⟨fun _ => ?_, hK _ ?_⟩; ((go_at_call 156; exact (HX.out _))); clear hK K) | (simp only [↓IntWalk.iteOmega]; (try go_simp); (try (go_ints; try go_simp)); first | (refine hK _ ?_; clear hK K) | (apply Exists.intro; refine ⟨fun _ => ?_, hK _ ?_⟩; ((go_at_call 156; exact (HX.out _))); clear hK K))); (refine walkP_step (fun K hK => ?_); go_simp; (try (go_ints; try go_simp)); first | (refine hK _ ?_; clear hK K) | (apply Exists.intro; refine ⟨fun _ => ?_, hK _ ?_⟩; ((go_at_call 156; exact (HX.out _))); clear hK K) | (simp only [↓IntWalk.iteOmega]; (try go_simp); (try (go_ints; try go_simp)); first | (refine hK _ ?_; clear hK K) | (apply Exists.intro; refine ⟨fun _ => ?_, hK _ ?_⟩; ((go_at_call 156; exact (HX.out _))); clear hK K))); (refine walkP_step (fun K hK => ?_); go_simp; (try (go_ints; try go_simp)); first | (refine hK _ ?_; clear hK K) | (apply Exists.intro; refine ⟨fun _ => ?_, hK _ ?_⟩; ((go_at_call 156; exact (HX.out _))); clear hK K) | (simp only [↓IntWalk.iteOmega]; (try go_simp); (try (go_ints; try go_simp)); first | (refine hK _ ?_; clear hK K) | (apply Exists.intro; refine ⟨fun _ => ?_, hK _ ?_⟩; ((go_at_call 156; exact (HX.out _))); clear hK K))); (refine walkP_step (fun K hK => ?_); go_simp; (try (go_ints; try go_simp)); first | (refine hK _ ?_; clear hK K) | (apply Exists.intro; refine ⟨fun _ => ?_, hK _ ?_⟩; ((go_at_call 156; exact (HX.out _))); clear hK K) | (simp only [↓IntWalk.iteOmega]; (try go_simp); (try (go_ints; try go_simp)); first | (refine hK _ ?_; clear hK K) | (apply Exists.intro; refine ⟨fun _ => ?_, hK _ ?_⟩; ((go_at_call 156; exact (HX.out _))); clear hK K))); (refine walkP_step (fun K hK => ?_); go_simp; (try (go_ints; try go_simp)); first | (refine hK _ ?_; clear hK K) | (apply Exists.intro; refine ⟨fun _ => ?_, hK _ ?_⟩; ((go_at_call 156; exact (HX.out _))); clear hK K) | (simp only [↓IntWalk.iteOmega]; (try go_simp); (try (go_ints; try go_simp)); first | (refine hK _ ?_; clear hK K) | (apply Exists.intro; refine ⟨fun _ => ?_, hK _ ?_⟩; ((go_at_call 156; exact (HX.out _))); clear hK K))); (refine walkP_step (fun K hK => ?_); go_simp; (try (go_ints; try go_simp)); first | (refine hK _ ?_; clear hK K) | (apply Exists.intro; refine ⟨fun _ => ?_, hK _ ?_⟩; ((go_at_call 156; exact (HX.out _))); clear hK K) | (simp only [↓IntWalk.iteOmega]; (try go_simp); (try (go_ints; try go_simp)); first | (refine hK _ ?_; clear hK K) | (apply Exists.intro; refine ⟨fun _ => ?_, hK _ ?_⟩; ((go_at_call 156; exact (HX.out _))); clear hK K)))
            refine walkP_nil ⟨?_, List.forall_mem_cons.2 ⟨?_, List.forall_mem_cons.2 ⟨?_, List.forall_mem_cons.2 ⟨?_, fun _ h => nomatch h⟩⟩⟩, fun xs F hF => ?_⟩
            · simp [dstO]
            · intro ow how xs wc hxc hF hd R hR
              simp only [List.getElem?_cons_succ, List.getElem?_cons_zero, Option.some.injEq] at how
              subst how
              simp only [dstO, puts, List.map_nil]
              have hs := hxc.size
              simp at hs
              go_simp
              simp only [anyUpon]
              exact hR _ _ ((Ext.refl _).alloc _) (emp_new 33 2 hs)
            · intro ow how xs wc hxc hF hd R hR
              simp only [List.getElem?_cons_succ, List.getElem?_cons_zero, Option.some.injEq] at how
              subst how
              have hd9 := hd 9 (by simp)
              simp only [dstO, puts, List.map_cons, List.map_nil, List.getElem?_cons_succ, List.getElem?_cons_zero, Option.bind_some, Option.getD_some] at hd9 ⊢
              obtain ⟨eb, g1, g2, g3, g4⟩ := hd9
              refine any_append_new _ _ _ (by rfl) 33 i0 (.agg #[.int .i64 0, .int .i64 0]) 2 16 Try.underlying28 hi iz0 iz1 iz2 (by rfl) (by decide) eb (Eq.trans (by rfl) g1) g4 ⟨ub, uo, none⟩ D.length uc (by rfl) (pxy D) (fun jj uu h => ?_) HC2.out HC3.out (by unfold maxLen; omega) (by omega) wq.heap.size g2 (fun b' c' w' hx' ho' => hR _ _ hx' ⟨b', c', rfl, by have := hxc.size; have := hx'.size; simp at *; omega, ho'⟩)
              have hq := HC1.out jj uu h
              rw [Go.WideShapes.add_plain] at hq ⊢
              exact ((((Ext.refl wq).drew).trans hxc).cells ub _ (by omega)).trans hq
            · intro ow how xs wc hxc hF hd R hR
              simp only [List.getElem?_cons_succ, List.getElem?_cons_zero, Option.some.injEq] at how
              subst how
              simp only [dstO, puts, List.map_nil]
              go_simp
              simp only [anyUpon]
              exact hR _ _ ((Ext.refl _).alloc _) (cel_two _ _ _)
            · simp only [dstO, puts, List.map_cons, List.map_nil, List.getElem?_cons_succ, List.getElem?_cons_zero, Option.bind_some, Option.getD_some] at hF ⊢
              have hF11 : ∀ w', F w' → Rowf wq.heap.size 33 2 D.length (pxy D) (xs 48) w' := fun w' h => (hF w' h).2 (11, [9]) (by simp)
              have hF16 : ∀ w', F w' → Cel [.int .i64 (kx : Int), .int .i64 (ky : Int)] (xs 53) w' := fun w' h => (hF w' h).2 (16, []) (by simp)
              clear hF
              refine walkP_appendF rfl _ _ _ rfl wq.heap.size 33 i0 (.agg #[.int .i64 0, .int .i64 0]) 2 16 Try.underlying28 hi iz0 iz1 iz2 (by rfl) (by decide) (by simp) (xs 48) D.length (pxy D) (by rfl) (xs 53) 1 [.int .i64 (kx : Int), .int .i64 (ky : Int)] (by rfl) (by rfl) (by simp [Value.oneCell']) (by unfold maxLen; omega) (by omega) (fun wc hxc hFw => ?_) (fun v2 => ?_)
              · obtain ⟨b1, c1', f1, f2, f3⟩ := hF11 wc hFw
                obtain ⟨b2, f4, f5, f6⟩ := hF16 wc hFw
                exact ⟨f3, f2, _, _, f4, f6⟩
              refine walkP_callR (fun v => v) (fun v w' => LLs w' wq.heap.size v TT) (fun _ _ _ hx h => lls_ext h hx) rfl (fun wc hxc hFw R hR => ?_) (fun v3 => ?_)
              · obtain ⟨g1, g2⟩ := hFw
                obtain ⟨v2o, v2c, rfl, hsh2⟩ := own_shape g1
                obtain ⟨v2b, rfl, _, _⟩ := hsh2 (by omega)
                rw [← Q.out, ← pxy_append] at g1
                have hIn := inn_own (L := D ++ [k]) (by rw [List.length_append]; rfl) g1
                go_simp
                simp only [anyUpon]
                go_at_call 120
                refine (HR.out _ _ _ (rawl_ext HRO.out ((hxq.drew).trans hxc)) hIn).mono ?_
                rintro e w1 ⟨r, rfl, hE, hll⟩
                exact ⟨_, rfl, hR _ _ hE (lls_mono hll g2)⟩
              refine walkP_nil ?_
              clear hgr
              intro w1 hE hFw
              replace hE : Ext wq w1 := ((Ext.refl wq).drew).trans hE
              obtain ⟨_, us, ho3, hl3⟩ := hFw
              obtain ⟨vs, ho2, hl2⟩ := HL2.out
              have hs3 := hE.size
              have hox := own_ext ho2 hE
              have hlx := llv_ext hl2 hE
              have HOX := Lib.hid hox
              have hx6 := hxq.trans hE
              have hA6 := HA2.out.ext hE xa
              have hB6 := HB2.out.ext hE xb
              clear ho2 hl2
              rcases ho3.2 with ⟨hv3, hn3⟩ | ⟨g3, c3', cur3, hv3, hb3, hg3, _⟩
              · subst hv3
                have hTT : TT = [] := List.eq_nil_of_length_eq_zero hn3
                rw [hTT, List.append_nil] at HD
                have HDD := Lib.hid (show LLs w1 (w.heap.size + 2) (.slice oo (tA (pr6 n) O z D j).length oc) (tA (pr6 n) O z D (j + 1)) by rw [HD.out]; exact ⟨vs, hox, hlx⟩)
                have HA6 := Lib.hid hA6
                have HB6 := Lib.hid hB6
                clear hA6 hB6 hTT hox hlx hal
                go_wp2_with (at_builtin; refine wpList_append_own_none (by rfl) _ _ 119 (by rfl) (w.heap.size + 2) 28 s0 1 Try.underlying119 si _ _ _ (by rfl) HOX.out (by rfl) ?_)
                refine ⟨⟨j + 1, by omega, by go_num, hx6, HA6.out, HB6.out, by omega, HDD.out⟩, by simp [intOf]; first | exact hdec | omega⟩
              · subst hv3
                have HA6 := Lib.hid hA6
                have HB6 := Lib.hid hB6
                have HLX := Lib.hid hlx
                have HL3 := Lib.hid hl3
                have HN3 := Lib.hid (show ∀ (jj : Nat) (uu : Value), us[jj]? = some uu → w1.cell? ((⟨g3, 0, none⟩ : Addr).add jj) = some uu from fun jj uu h => by
                  rw [Go.WideShapes.add_plain, Nat.zero_add]
                  have hlt2 := (List.getElem?_eq_some_iff.1 h).1
                  rw [ho3.1] at hlt2
                  exact (ho3.cellAt jj hlt2).trans h)
                have HN4 := Lib.hid ho3.1
                have hl5 : (tA (pr6 n) O z D j).length + TT.length ≤ 68719476736 := by omega
                clear hA6 hB6 hox hlx hal hl3 ho3 hg3
                go_wp2_with (at_builtin; refine wpList_append_own _ (by rfl) _ _ 119 (by rfl) (w.heap.size + 2) 28 s0 (.slice none 0 0) 1 24 Try.underlying119 si sz0 sz1 sz2 (by rfl) (by decide) _ _ _ (by rfl) HOX.out ⟨g3, 0, none⟩ TT.length c3' us (by rfl) HN4.out HN3.out HL3.out.2.1 (by unfold maxLen; omega) (by omega) (by omega) ?_; intro v4 w4 hown4 hgrow4 _)
                have hs4 := hgrow4.size
                have hlt4 := HOX.out.lt
                have HX7 := Lib.hid (show Ext w w4 from .of (hx6.below.grown hgrow4 hx6.size (fun k hk => by have := (hlt4 k hk).1; omega)))
                have HA7 := Lib.hid (arr_grow HA6.out hgrow4 (by omega) (fun e => by have := (hlt4 _ e.symm).1; omega))
                have HB7 := Lib.hid (arr_grow HB6.out hgrow4 (by omega) (fun e => by have := (hlt4 _ e.symm).1; omega))
                have HL7 := Lib.hid (show LLs w4 (w.heap.size + 2) v4 (tA (pr6 n) O z D (j + 1)) by
                  rw [HD.out]
                  exact ⟨vs ++ us, by rw [List.length_append]; exact hown4, llv_append (llv_grown HLX.out HOX.out hgrow4) (llv_grown (llv_mono HL3.out (by omega)) HOX.out hgrow4)⟩)
                refine ⟨⟨j + 1, by omega, by go_num, HX7.out, HA7.out, HB7.out, by omega, HL7.out⟩, by simp [intOf]; first | exact hdec | omega⟩
        · obtain rfl : j = O.length := by omega
          go_wp2
          go_returns
          exact ⟨_, rfl, hx, by rw [← HAA.out]; exact lls_mono HLL.out (show w.heap.size ≤ w.heap.size + 2 by omega)⟩
end Go.Proofs.Ytlifhoajamnehaa
