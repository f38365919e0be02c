/- Apart: contracts of functions, and lemmas, for this seat. Conditions: as each states. -/
import Derived.Test.YtlifhoajamnehaaSmall
import Derived.Test.YtlifhoajamnehaaOpens
import Derived.Test.YtlifhoajamnehaaTileM
import Derived.Test.YtlifhoajamnehaaRaw0
set_option linter.unusedVariables false
set_option maxRecDepth 100000
set_option maxHeartbeats 4000000
namespace Go.Proofs.Ytlifhoajamnehaa
open Go Go.RowKit Instr
theorem prt_e64 {a z : Nat} (ha : a < 68719476736) (hz : z < 68719476736) : bits .andNot .u64 (a : Int) (z : Int) = ((a &&& cmp z : Nat) : Int) := andn64s ha hz
theorem mns_pow {z q : Nat} (hz : z < 68719476736) (hq : q < 36) : bits .andNot .u64 (z : Int) (IntKind.u64.wrap (2 ^ q)) = ((mns z (2 ^ q) : Nat) : Int) := by
  rw [bit_put q hq, andn64s hz (pow36 hq)]; rfl
theorem fl_first {z : Nat} (hz : z < 68719476736) (h : z ≠ 0) : ∃ q, (fl z.testBit 36)[0]? = some q ∧ q < 36 ∧ z.testBit q = true := by
  cases hl : fl z.testBit 36 with
  | nil =>
    refine absurd (ext36 hz (by omega) fun k hk => ?_) h
    rw [Nat.zero_testBit]
    cases hb : z.testBit k
    · rfl
    · have : k ∈ fl z.testBit 36 := List.mem_filter.2 ⟨List.mem_range.2 hk, hb⟩
      rw [hl] at this; cases this
  | cons q L =>
    refine ⟨q, by simp, ?_⟩
    have : q ∈ fl z.testBit 36 := by rw [hl]; exact List.mem_cons_self
    obtain ⟨h1, h2⟩ := List.mem_filter.1 this
    exact ⟨List.mem_range.1 h1, h2⟩
theorem cnt_less {a z : Nat} (ha : a < 68719476736) (h0 : a ≠ 0) (h : prt a z = true) : cnt (mns z a) < cnt z := by
  have := cnt_mns z ha h
  have := cnt_pos ha h0
  omega
theorem prt_pow {z q : Nat} (hq : q < 36) (h : z.testBit q = true) : prt (2 ^ q) z = true :=
  (prt_iff z (pow36 hq)).2 fun k _ hb => by
    rw [Nat.testBit_two_pow] at hb
    obtain rfl : q = k := of_decide_eq_true hb
    exact h
theorem mT_drop (f : Nat → Nat) (q : Nat) (o : List Nat) (z : Nat) (L : List Nat) (i k : Nat) (h : L[i]? = some k) : mT f q o z (L.drop i) = max (if (f k).testBit q && prt (f k) z then 1 + aT f o (mns z (f k)) else 0) (mT f q o z (L.drop (i + 1))) := by
  have hi := (List.getElem?_eq_some_iff.1 h)
  rw [List.drop_eq_getElem_cons hi.1, hi.2]; rfl
theorem apart_n (n : Nat) (hn : n < 68719476736) (h0 : n ≠ 0) (L : List Nat) (hG : ∀ (i k : Nat), L[i]? = some k → k < 36) (hlen : L.length ≤ 36) : ∀ (N z : Nat), cnt z < N → z < 68719476736 → ∀ (B : Nat) (v : Value) (w : World), w.ownsRow B 3 1 v L.length (ints L) →
    Calls Try.prog 133 #[.int .u64 (n : Int), v, .int .u64 (z : Int)] w fun e w' => e = .returned (.int .i64 (aT (pr6 n) L z : Nat)) ∧ Ext w w'
  | 0, z, hN, _, _, _, _, _ => absurd hN (Nat.not_lt_zero _)
  | N + 1, z, hN, hz, B, v, w, ho => by
    have IH := Lib.hid (apart_n n hn h0 L hG hlen N)
    have hf := pr6_lt n
    have hf0 := pr6_ne hn h0
    obtain ⟨ao, cap, rfl, hsh⟩ := own_shape ho
    have HO := Lib.hid ho
    have HG := Lib.hid hG
    clear ho hG
    by_cases hz0 : z = 0
    · subst hz0
      have HA := Lib.hid (aT_0 (pr6 n) hf hf0 L)
      go_enter Try.func133, Try.ntmps133
      go_wp2
      go_returns
      exact ⟨ret_int (by rw [HA.out]; rfl), (by (repeat' (first | (with_reducible exact Ext.refl _) | (with_reducible assumption) | (with_reducible refine Ext.alloc ?_ _) | (with_reducible refine Ext.drew ?_) | (with_reducible refine Ext.drewN ?_ _) | (with_reducible refine Ext.setCell ?_ ?_ _) | (with_reducible refine Ext.trans ?_ (by assumption)))) <;> (first | (with_reducible assumption) | omega | (simp; done) | (simp; omega)))⟩
    · obtain ⟨q, hq0, hq, hqz⟩ := fl_first hz hz0
      have hzz : ((z : Int) = 0) ↔ False := iff_of_false (by omega) id
      have HL := Lib.hid (fun w => list_n z hz w)
      have HA := Lib.hid (aT_first (pr6 n) hf hf0 q hq L z hqz)
      have e1 := mns_pow hz hq
      have HR := Lib.hid (IH.out (mns z (2 ^ q)) (by have := cnt_less (pow36 hq) (bit_ne (pow_bit q)) (prt_pow hq hqz); omega) (mns_lt _ hz))
      have hbd : ∀ y, aT (pr6 n) L y ≤ 36 := fun y => Nat.le_trans (aT_le _ _ _) hlen
      have hAb := hbd (mns z (2 ^ q))
      have HAT := Lib.hid (show ∃ A, A = aT (pr6 n) L z from ⟨_, rfl⟩)
      go_enter Try.func133, Try.ntmps133
      go_wp2_with (first | (go_at_call 150; refine (HL.out _).mono ?_; rintro e w1 ⟨u, rfl, hE, hu⟩; obtain ⟨uo, uc, rfl, ush⟩ := own_shape hu; obtain ⟨ub, rfl, _, ubl⟩ := ush (by have := (List.getElem?_eq_some_iff.1 hq0).1; omega); have u0 := (hu.cellAt 0 (by have := (List.getElem?_eq_some_iff.1 hq0).1; omega)).trans (ints_get _ 0 q hq0); have ulen := (List.getElem?_eq_some_iff.1 hq0).1; clear hu; obtain ⟨wa, rfl⟩ : ∃ x, x = w1 := ⟨_, rfl⟩) | (go_at_call 133; refine (HR.out _ _ _ (own_ext HO.out (by (repeat' (first | (with_reducible exact Ext.refl _) | (with_reducible assumption) | (with_reducible refine Ext.alloc ?_ _) | (with_reducible refine Ext.drew ?_) | (with_reducible refine Ext.drewN ?_ _) | (with_reducible refine Ext.setCell ?_ ?_ _) | (with_reducible refine Ext.trans ?_ (by assumption)))) <;> (first | (with_reducible assumption) | omega | (simp; done) | (simp; omega))))).mono ?_; rintro e w1 ⟨rfl, hE⟩; obtain ⟨wb, rfl⟩ : ∃ x, x = w1 := ⟨_, rfl⟩))
      have hxb : Ext w wb := (by (repeat' (first | (with_reducible exact Ext.refl _) | (with_reducible assumption) | (with_reducible refine Ext.alloc ?_ _) | (with_reducible refine Ext.drew ?_) | (with_reducible refine Ext.drewN ?_ _) | (with_reducible refine Ext.setCell ?_ ?_ _) | (with_reducible refine Ext.trans ?_ (by assumption)))) <;> (first | (with_reducible assumption) | omega | (simp; done) | (simp; omega)))
      go_loopw [8, 27] (fun m i wr => ∃ j M : Nat, j ≤ L.length ∧ M ≤ 37 ∧ i = .int .i64 j ∧ m = .int .i64 (M : Int) ∧ max M (mT (pr6 n) q L z (L.drop j)) = aT (pr6 n) L z ∧ Ext w wr) (fun _ i _ => L.length - (intOf i).toNat)
      case atStart => exact ⟨0, aT (pr6 n) L (mns z (2 ^ q)), Nat.zero_le _, by omega, rfl, rfl, HA.out.symm, hxb⟩
      case round =>
        clear u0 ulen
        obtain ⟨j, M, hj, hM, rfl, rfl, hmx, hx⟩ := hrel
        obtain ⟨wo, rfl⟩ : ∃ wo : World, wo = wr := ⟨_, rfl⟩
        have HM := Lib.hid hmx
        clear hmx
        by_cases hlt : j < L.length
        · obtain ⟨b, rfl, _, hb⟩ := hsh (by omega)
          obtain ⟨k, hk⟩ : ∃ k, L[j]? = some k := ⟨L[j], List.getElem?_eq_getElem hlt⟩
          have hk36 := HG.out j k hk
          have c1 := ((own_ext HO.out hx).cellAt j (by omega)).trans (ints_get L j k hk)
          have HP := Lib.hid (show ∀ w, Calls Try.prog 97 #[.int .u64 (n : Int), .int .i64 (k : Int)] w fun e w' => e = .returned (.int .u64 (pr6 n k : Nat)) ∧ Ext w w' from fun w => pressed_any n k hn hk36 w)
          have HD := Lib.hid (mT_drop (pr6 n) q L z L j k hk)
          have hK := hf k
          have hK0 := hf0 k
          have hTb := hbd (mns z (pr6 n k))
          have HR2 := Lib.hid (fun (hp : prt (pr6 n k) z = true) => IH.out (mns z (pr6 n k)) (by have := cnt_less hK hK0 hp; omega) (mns_lt _ hz))
          have HH := Lib.hid (fun w => has_any (pr6 n k) q hK hq w)
          have e2 := prt_e64 hK hz
          have e3 := prt_e64 hz hK
          rw [show z &&& cmp (pr6 n k) = mns z (pr6 n k) from rfl] at e3
          clear hk
          cases h1 : (pr6 n k).testBit q
          · rw [h1] at HH HD
            have HM2 := Lib.hid (show max M (mT (pr6 n) q L z (L.drop (j + 1))) = aT (pr6 n) L z by rw [← HM.out, HD.out]; simp)
            clear h1 HD HM
            go_wp2_with (first | (go_at_call 97; refine (HP.out _).mono ?_; rintro e w1 ⟨rfl, hE⟩) | (go_at_call 157; refine (HH.out _).mono ?_; rintro e w' ⟨rfl, rfl⟩))
            refine ⟨⟨j + 1, M, by omega, hM, by go_num, rfl, HM2.out, (by (repeat' (first | (with_reducible exact Ext.refl _) | (with_reducible assumption) | (with_reducible refine Ext.alloc ?_ _) | (with_reducible refine Ext.drew ?_) | (with_reducible refine Ext.drewN ?_ _) | (with_reducible refine Ext.setCell ?_ ?_ _) | (with_reducible refine Ext.trans ?_ (by assumption)))) <;> (first | (with_reducible assumption) | omega | (simp; done) | (simp; omega)))⟩, by simp [intOf]; omega⟩
          · rw [h1] at HH HD
            cases h2 : prt (pr6 n k) z
            · rw [h2] at HD
              have hne : ((pr6 n k &&& cmp z : Nat) : Int) ≠ 0 := fun e => by
                unfold prt at h2
                rw [decide_eq_true (by omega)] at h2; cases h2
              have HM2 := Lib.hid (show max M (mT (pr6 n) q L z (L.drop (j + 1))) = aT (pr6 n) L z by rw [← HM.out, HD.out]; simp)
              clear h1 h2 HD HM
              generalize pr6 n k &&& cmp z = X at *
              go_wp2_with (first | (go_at_call 97; refine (HP.out _).mono ?_; rintro e w1 ⟨rfl, hE⟩) | (go_at_call 157; refine (HH.out _).mono ?_; rintro e w' ⟨rfl, rfl⟩))
              refine ⟨⟨j + 1, M, by omega, hM, by go_num, rfl, HM2.out, (by (repeat' (first | (with_reducible exact Ext.refl _) | (with_reducible assumption) | (with_reducible refine Ext.alloc ?_ _) | (with_reducible refine Ext.drew ?_) | (with_reducible refine Ext.drewN ?_ _) | (with_reducible refine Ext.setCell ?_ ?_ _) | (with_reducible refine Ext.trans ?_ (by assumption)))) <;> (first | (with_reducible assumption) | omega | (simp; done) | (simp; omega)))⟩, by simp [intOf]; omega⟩
            · rw [h2] at HD
              have h00 : pr6 n k &&& cmp z = 0 := by unfold prt at h2; exact of_decide_eq_true h2
              rw [h00] at e2
              replace HR2 := Lib.hid (HR2.out h2)
              have HM2 := Lib.hid (show max (max M (1 + aT (pr6 n) L (mns z (pr6 n k)))) (mT (pr6 n) q L z (L.drop (j + 1))) = aT (pr6 n) L z by rw [← HM.out, HD.out]; simp only [Bool.and_self, if_true]; omega)
              clear h1 h2 HD HM h00
              generalize aT (pr6 n) L (mns z (pr6 n k)) = T at *
              go_wp2_with (first | (go_at_call 97; refine (HP.out _).mono ?_; rintro e w1 ⟨rfl, hE⟩) | (go_at_call 157; refine (HH.out _).mono ?_; rintro e w' ⟨rfl, rfl⟩) | (go_at_call 133; refine (HR2.out _ _ _ (own_ext HO.out (by (repeat' (first | (with_reducible exact Ext.refl _) | (with_reducible assumption) | (with_reducible refine Ext.alloc ?_ _) | (with_reducible refine Ext.drew ?_) | (with_reducible refine Ext.drewN ?_ _) | (with_reducible refine Ext.setCell ?_ ?_ _) | (with_reducible refine Ext.trans ?_ (by assumption)))) <;> (first | (with_reducible assumption) | omega | (simp; done) | (simp; omega))))).mono ?_; rintro e w1 ⟨rfl, hE⟩; obtain ⟨wc, rfl⟩ : ∃ x, x = w1 := ⟨_, rfl⟩))
              refine ⟨⟨j + 1, max M (1 + T), by omega, by omega, by go_num, ?_, HM2.out, (by (repeat' (first | (with_reducible exact Ext.refl _) | (with_reducible assumption) | (with_reducible refine Ext.alloc ?_ _) | (with_reducible refine Ext.drew ?_) | (with_reducible refine Ext.drewN ?_ _) | (with_reducible refine Ext.setCell ?_ ?_ _) | (with_reducible refine Ext.trans ?_ (by assumption)))) <;> (first | (with_reducible assumption) | omega | (simp; done) | (simp; omega)))⟩, by simp [intOf]; omega⟩
              exact val_int (by split <;> omega)
        · obtain rfl : j = L.length := by omega
          have HF := Lib.hid (show (M : Nat) = aT (pr6 n) L z by rw [← HM.out, List.drop_length]; simp [mT])
          go_wp2
          go_returns
          exact ⟨ret_int (by rw [HF.out]), (by (repeat' (first | (with_reducible exact Ext.refl _) | (with_reducible assumption) | (with_reducible refine Ext.alloc ?_ _) | (with_reducible refine Ext.drew ?_) | (with_reducible refine Ext.drewN ?_ _) | (with_reducible refine Ext.setCell ?_ ?_ _) | (with_reducible refine Ext.trans ?_ (by assumption)))) <;> (first | (with_reducible assumption) | omega | (simp; done) | (simp; omega)))⟩
end Go.Proofs.Ytlifhoajamnehaa
