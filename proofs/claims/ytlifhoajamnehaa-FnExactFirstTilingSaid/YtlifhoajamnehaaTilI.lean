/- TilI: contracts of functions, and lemmas, for this seat. Conditions: as each states. -/
import Derived.Test.YtlifhoajamnehaaOff
import Derived.Test.YtlifhoajamnehaaTilL
import Derived.Test.YtlifhoajamnehaaOpens
import Derived.Test.YtlifhoajamnehaaSmall
set_option linter.unusedVariables false
set_option maxRecDepth 100000
set_option maxHeartbeats 4000000
namespace Go.Proofs.Ytlifhoajamnehaa
open Go Go.RowKit Instr
theorem e64 {a z : Nat} (ha : a < 68719476736) (hz : z < 68719476736) : bits .andNot .u64 (a : Int) (z : Int) = ((a &&& cmp z : Nat) : Int) := andn64s ha hz
/-- tilings tells all of them, in this order -/
theorem tilings_n (n : Nat) (hn : n < 68719476736) (h0 : n ≠ 0) (L : List Nat) (hG : ∀ (i k : Nat), L[i]? = some k → k < 36) (hlen : L.length ≤ 36)
    (f : FuncId) (caps : Array Value) (hcf : ∀ args w, (callFunc f args).run Try.prog w = .ok (.enter f args) w)
    (S : Nat → Prop) (C : Nat) (hS : ∀ k, S k → k < C) (K : List (List Nat) → World → Prop) (hK : ∀ acc w w', K acc w → Ext w w' → K acc w')
    (HW : ∀ acc D u w, acc.length < 1099511627776 → D.length ≤ 36 → C ≤ w.heap.size → K acc w → w.ownsRow C 3 1 u D.length (ints D) → Calls Try.prog f (#[u] ++ caps) w fun e w' => ∃ r, e = .returned r ∧ K (acc ++ [D]) w' ∧ Off S w w') :
    ∀ (N z : Nat), cnt z < N → z < 68719476736 → ∀ (D : List Nat) (acc : List (List Nat)) (v u : Value) (w : World), C ≤ w.heap.size → w.ownsRow C 3 1 v L.length (ints L) → w.ownsRow C 3 1 u D.length (ints D) → D.length + cnt z ≤ 36 → K acc w → acc.length + (tI (pr6 n) L N z D).length ≤ 1099511627776 →
    Calls Try.prog 124 #[.int .u64 (n : Int), v, .int .u64 (z : Int), u, .func (.func f) #[] caps] w fun e w' => ∃ r, e = .returned r ∧ K (acc ++ tI (pr6 n) L N z D) w' ∧ Off S w w'
  | 0, z, hN, _, _, _, _, _, _, _, _, _, _, _, _ => absurd hN (Nat.not_lt_zero _)
  | N + 1, z, hN, hz, D, acc, v, u, w, hC, hv, hu, hD, hk, hacc => by
    have IH := Lib.hid (tilings_n n hn h0 L hG hlen f caps hcf S C hS K hK HW N)
    have hf := pr6_lt n
    have hf0 := pr6_ne hn h0
    have HG := Lib.hid hG
    have HCB := Lib.hid HW
    have HKE := Lib.hid hK
    clear hG HW hK
    obtain ⟨ao, cap, rfl, hsh⟩ := own_shape hv
    have HV := Lib.hid hv
    obtain ⟨uo, uc, rfl, _⟩ := own_shape hu
    have HU := Lib.hid hu
    clear hv hu
    have HKK := Lib.hid hk
    clear hk
    by_cases hz0 : z = 0
    · subst hz0
      rw [tI_0] at hacc ⊢
      have HA := Lib.hid (HCB.out acc D _ w (by simp at hacc; omega) (by omega) hC HKK.out HU.out)
      go_enter Try.func124, Try.ntmps124
      go_wp2_with (refine HA.out.mono ?_; rintro e w1 ⟨r, rfl, hk1, hoff⟩)
      go_returns
      exact ⟨_, rfl, hk1, hoff⟩
    · obtain ⟨q, hq0, hq, hqz⟩ := fl_first0 hz hz0
      have hfq : fstB z = q := by unfold fstB; rw [hq0]; rfl
      have hzz : ((z : Int) = 0) ↔ False := iff_of_false (by omega) id
      have HL := Lib.hid (fun w => list_n z hz w)
      rw [tI_s (pr6 n) L N hz0] at hacc ⊢
      have HJA := Lib.hid (tJ_all (tG (pr6 n) L N z D) L)
      have HJL := Lib.hid (tJ_le (tG (pr6 n) L N z D) L)
      have HJ0 := Lib.hid (tJ_0 (tG (pr6 n) L N z D) L)
      have HJS := Lib.hid (fun (j k : Nat) (h : L[j]? = some k) => tJ_s (tG (pr6 n) L N z D) L h)
      have HCL := Lib.hid (fun B v w ho => clone_n D (by omega) B v w ho)
      go_enter Try.func124, Try.ntmps124
      go_wp2_with (go_at_call 150; refine (HL.out _).mono ?_; rintro e w1 ⟨u, rfl, hE, hu⟩; obtain ⟨lo, lc, rfl, ush⟩ := own_shape hu; obtain ⟨ub, rfl, _, ubl⟩ := ush (by have := (List.getElem?_eq_some_iff.1 hq0).1; omega); have u0 := (hu.cellAt 0 (by have := (List.getElem?_eq_some_iff.1 hq0).1; omega)).trans (ints_get _ 0 q hq0); have ulen := (List.getElem?_eq_some_iff.1 hq0).1; have hxb := hE; obtain ⟨wb, rfl⟩ : ∃ x, x = w1 := ⟨_, rfl⟩)
      have hxo : Off S w wb := hxb.off S
      have HV1 := Lib.hid (own_ext HV.out hxb)
      have HU1 := Lib.hid (own_ext HU.out hxb)
      have HK1 := Lib.hid (HKE.out _ _ _ HKK.out hxb)
      have hC1 : C ≤ wb.heap.size := Nat.le_trans hC hxb.size
      have hI64 := info_int
      obtain ⟨i0, hi, iz0, iz1, iz2⟩ := info_parts info_int
      clear u0 ulen hI64
      go_loopw [25] (fun i wr => ∃ j : Nat, j ≤ L.length ∧ i = .int .i64 j ∧ K (acc ++ tJ (tG (pr6 n) L N z D) L j) wr ∧ Off S wb wr) (fun i _ => L.length - (intOf i).toNat)
      case atStart => exact ⟨0, Nat.zero_le _, rfl, by rw [HJ0.out, List.append_nil]; exact HK1.out, Off.refl _ _⟩
      case round =>
        obtain ⟨j, hj, rfl, hkj, hx⟩ := hrel
        obtain ⟨wo, rfl⟩ : ∃ wo : World, wo = wr := ⟨_, rfl⟩
        have HKJ := Lib.hid hkj
        clear hkj
        have HV2 := Lib.hid (hx.own HV1.out hS (Nat.le_refl _))
        have HU2 := Lib.hid (hx.own HU1.out hS (Nat.le_refl _))
        have hC2 : C ≤ wo.heap.size := Nat.le_trans hC1 hx.size
        by_cases hlt : j < L.length
        · obtain ⟨b, rfl, _, hb⟩ := hsh (by omega)
          obtain ⟨k, hk⟩ : ∃ k, L[j]? = some k := ⟨L[j], List.getElem?_eq_getElem hlt⟩
          have hk36 := HG.out j k hk
          have c1 := (HV2.out.cellAt j (by omega)).trans (ints_get L j k hk)
          have HP := Lib.hid (show ∀ w, Calls Try.prog 97 #[.int .u64 (n : Int), .int .i64 (k : Int)] w fun e w' => e = .returned (.int .u64 (pr6 n k : Nat)) ∧ Ext w w' from fun w => pressed_any n k hn hk36 w)
          have HD := Lib.hid (HJS.out j k hk)
          have hjl := HJL.out (j + 1)
          rw [HD.out, List.length_append] at hjl
          have hpk := hf k
          have hpk0 := hf0 k
          have HH := Lib.hid (fun w => has_any (pr6 n k) q hpk hq w)
          have e2 := e64 hpk hz
          have e3 := e64 hz hpk
          rw [show z &&& cmp (pr6 n k) = mns z (pr6 n k) from rfl] at e3
          clear hk
          cases h1 : (pr6 n k).testBit q
          · rw [h1] at HH
            have HS1 := Lib.hid (show tJ (tG (pr6 n) L N z D) L (j + 1) = tJ (tG (pr6 n) L N z D) L j by rw [HD.out, tG_f (by rw [hfq, h1]; rfl), List.append_nil])
            clear h1
            go_wp2_with (first | (go_at_call 97; refine (HP.out _).mono ?_; rintro e w1 ⟨rfl, hE⟩) | (go_at_call 157; refine (HH.out _).mono ?_; rintro e w' ⟨rfl, rfl⟩))
            (refine ⟨?_, by simp [intOf]; omega⟩; repeat (first | exact ⟨j + 1, by omega, by go_num, by rw [HS1.out]; exact HKE.out _ _ _ HKJ.out hE, hx.trans (hE.off S)⟩ | exact ⟨⟨j + 1, by omega, by go_num, by rw [HS1.out]; exact HKE.out _ _ _ HKJ.out hE, hx.trans (hE.off S)⟩, rfl⟩ | apply Exists.intro))
          · rw [h1] at HH
            cases h2 : prt (pr6 n k) z
            · have hne : ((pr6 n k &&& cmp z : Nat) : Int) ≠ 0 := fun e => by
                unfold prt at h2
                rw [decide_eq_true (by omega)] at h2; cases h2
              have HS1 := Lib.hid (show tJ (tG (pr6 n) L N z D) L (j + 1) = tJ (tG (pr6 n) L N z D) L j by rw [HD.out, tG_f (by rw [h2, Bool.and_false]), List.append_nil])
              clear h1 h2
              generalize pr6 n k &&& cmp z = X at *
              go_wp2_with (first | (go_at_call 97; refine (HP.out _).mono ?_; rintro e w1 ⟨rfl, hE⟩) | (go_at_call 157; refine (HH.out _).mono ?_; rintro e w' ⟨rfl, rfl⟩))
              (refine ⟨?_, by simp [intOf]; omega⟩; repeat (first | exact ⟨j + 1, by omega, by go_num, by rw [HS1.out]; exact HKE.out _ _ _ HKJ.out hE, hx.trans (hE.off S)⟩ | exact ⟨⟨j + 1, by omega, by go_num, by rw [HS1.out]; exact HKE.out _ _ _ HKJ.out hE, hx.trans (hE.off S)⟩, rfl⟩ | apply Exists.intro))
            · have h00 : pr6 n k &&& cmp z = 0 := by unfold prt at h2; exact of_decide_eq_true h2
              rw [h00] at e2
              rw [tG_t (by rw [hfq]; exact h1) h2] at HD hjl
              have hcl := cnt_less0 hpk hpk0 h2
              have HR2 := Lib.hid (fun D' acc' v u w => IH.out (mns z (pr6 n k)) (by omega) (mns_lt _ hz) D' acc' v u w)
              have hml := mns_lt (pr6 n k) hz
              clear h1 h2 h00
              generalize mns z (pr6 n k) = z2 at *
              go_wp2_with (first | ((go_at_call 97; refine (HP.out _).mono ?_; rintro e w1 ⟨rfl, hE⟩); have HVp := Lib.hid (own_ext HV2.out hE); have HUp := Lib.hid (own_ext HU2.out hE); have HKp := Lib.hid (HKE.out _ _ _ HKJ.out hE); have hxp := hE; obtain ⟨wp, rfl⟩ : ∃ x, x = w1 := ⟨_, rfl⟩) | (go_at_call 157; refine (HH.out _).mono ?_; rintro e w' ⟨rfl, rfl⟩) | (go_at_call 158; refine (HCL.out _ _ _ HUp.out).mono ?_; rintro e w1 ⟨u2, rfl, hEc, hu2⟩; obtain ⟨u2o, u2c, rfl, _⟩ := own_shape hu2; have HUc := Lib.hid hu2; clear hu2; obtain ⟨wc, rfl⟩ : ∃ x, x = w1 := ⟨_, rfl⟩) | (at_builtin; refine wpList_append_own _ rfl _ _ 44 rfl wp.heap.size 3 i0 (.int .i64 0) 1 8 Try.underlying44 hi iz0 iz1 iz2 rfl (by decide) _ _ _ rfl (HUc.out.alloc _) ⟨_, 0, none⟩ 1 1 [.int .i64 (k : Int)] rfl rfl one_cell (by simp [Value.oneCell']) (by unfold maxLen; omega) (by omega) (by have := hEc.size; simp; omega) ?_; intro v1 w2 hown hgrow _; have HXc := Lib.hid (own_push hEc (Nat.le_refl _) HUc.out hgrow).1; have hCp : C ≤ wp.heap.size := Nat.le_trans hC2 hxp.size; have HUn := Lib.hid (show w2.ownsRow C 3 1 v1 (D ++ [k]).length (ints (D ++ [k])) by rw [List.length_append, ints_append]; exact own_mono hown hCp); have HVn := Lib.hid (own_ext HVp.out HXc.out); have HKn := Lib.hid (HKE.out _ _ _ HKp.out HXc.out); have hCn : C ≤ w2.heap.size := Nat.le_trans hCp HXc.out.size; clear hown hgrow) | (go_at_call 124; refine (HR2.out (D ++ [k]) _ _ _ _ hCn HVn.out HUn.out (by rw [List.length_append]; simp; omega) HKn.out (by rw [List.length_append]; omega)).mono ?_; rintro e w3 ⟨r, rfl, hk3, hoff3⟩))
              rw [List.append_assoc, ← HD.out] at hk3
              (refine ⟨?_, by simp [intOf]; omega⟩; repeat (first | exact ⟨j + 1, by omega, by go_num, hk3, (hx.trans (hxp.off S)).trans ((HXc.out.off S).trans hoff3)⟩ | exact ⟨⟨j + 1, by omega, by go_num, hk3, (hx.trans (hxp.off S)).trans ((HXc.out.off S).trans hoff3)⟩, rfl⟩ | apply Exists.intro))
        · obtain rfl : j = L.length := by omega
          rw [HJA.out] at HKJ
          go_wp2
          go_returns
          exact ⟨_, rfl, HKJ.out, hxo.trans hx⟩
end Go.Proofs.Ytlifhoajamnehaa
