/- Apart CovM Big TilS: contracts of functions, and lemmas, for this seat. Conditions: as each states. -/
import Derived.Test.YtlifhoajamnehaaTd14
import Derived.Test.YtlifhoajamnehaaTd13
import Derived.Test.YtlifhoajamnehaaTd09
import Derived.Test.YtlifhoajamnehaaTd03
import Derived.Test.YtlifhoajamnehaaTd04
import Derived.Test.YtlifhoajamnehaaTd07
import Derived.Test.YtlifhoajamnehaaTd16
import Derived.Test.YtlifhoajamnehaaTd15
import Derived.Test.YtlifhoajamnehaaTd05
import Derived.Shelf.Spec.SlicesGrow
set_option linter.unusedVariables false
set_option linter.unusedSimpArgs false
set_option maxRecDepth 100000
set_option maxHeartbeats 4000000
namespace Go.Proofs.Ytlifhoajamnehaa
open Go Go.RowKit Instr
theorem prt_e64 {a z : Nat} (ha : a < 68719476736) (hz : z < 68719476736) : bits .andNot .u64 (a : Int) (z : Int) = ((a &&& cmp z : Nat) : Int) := andn64s ha hz
theorem mns_pow {z q : Nat} (hz : z < 68719476736) (hq : q < 36) : bits .andNot .u64 (z : Int) (IntKind.u64.wrap (2 ^ q)) = ((mns z (2 ^ q) : Nat) : Int) := by
  rw [bit_put q hq, andn64s hz (pow36 hq)]; rfl
theorem fl_first {z : Nat} (hz : z < 68719476736) (h : z ≠ 0) : ∃ q, (fl z.testBit 36)[0]? = some q ∧ q < 36 ∧ z.testBit q = true := by
  cases hl : fl z.testBit 36 with
  | nil =>
    refine absurd (ext36 hz (by omega) fun k hk => ?_) h
    rw [Nat.zero_testBit]
    cases hb : z.testBit k
    · rfl
    · have : k ∈ fl z.testBit 36 := List.mem_filter.2 ⟨List.mem_range.2 hk, hb⟩
      rw [hl] at this; cases this
  | cons q L =>
    refine ⟨q, by simp, ?_⟩
    have : q ∈ fl z.testBit 36 := by rw [hl]; exact List.mem_cons_self
    obtain ⟨h1, h2⟩ := List.mem_filter.1 this
    exact ⟨List.mem_range.1 h1, h2⟩
theorem cnt_less {a z : Nat} (ha : a < 68719476736) (h0 : a ≠ 0) (h : prt a z = true) : cnt (mns z a) < cnt z := by
  have := cnt_mns z ha h
  have := cnt_pos ha h0
  omega
theorem prt_pow {z q : Nat} (hq : q < 36) (h : z.testBit q = true) : prt (2 ^ q) z = true :=
  (prt_iff z (pow36 hq)).2 fun k _ hb => by
    rw [Nat.testBit_two_pow] at hb
    obtain rfl : q = k := of_decide_eq_true hb
    exact h
theorem mT_drop (f : Nat → Nat) (q : Nat) (o : List Nat) (z : Nat) (L : List Nat) (i k : Nat) (h : L[i]? = some k) : mT f q o z (L.drop i) = max (if (f k).testBit q && prt (f k) z then 1 + aT f o (mns z (f k)) else 0) (mT f q o z (L.drop (i + 1))) := by
  have hi := (List.getElem?_eq_some_iff.1 h)
  rw [List.drop_eq_getElem_cons hi.1, hi.2]; rfl
theorem apart_n (n : Nat) (hn : n < 68719476736) (h0 : n ≠ 0) (L : List Nat) (hG : ∀ (i k : Nat), L[i]? = some k → k < 36) (hlen : L.length ≤ 36) : ∀ (N z : Nat), cnt z < N → z < 68719476736 → ∀ (B : Nat) (v : Value) (w : World), w.ownsRow B 3 1 v L.length (ints L) →
    Calls Try.prog 133 #[.int .u64 (n : Int), v, .int .u64 (z : Int)] w fun e w' => e = .returned (.int .i64 (aT (pr6 n) L z : Nat)) ∧ Ext w w'
  | 0, z, hN, _, _, _, _, _ => absurd hN (Nat.not_lt_zero _)
  | N + 1, z, hN, hz, B, v, w, ho => by
    have IH := Lib.hid (apart_n n hn h0 L hG hlen N)
    have hf := pr6_lt n
    have hf0 := pr6_ne hn h0
    obtain ⟨ao, cap, rfl, hsh⟩ := own_shape ho
    have HO := Lib.hid ho
    have HG := Lib.hid hG
    clear ho hG
    by_cases hz0 : z = 0
    · subst hz0
      have HA := Lib.hid (aT_0 (pr6 n) hf hf0 L)
      go_enter Try.func133, Try.ntmps133
      go_wp2
      go_returns
      exact ⟨ret_int (by rw [HA.out]; rfl), (by (repeat' (first | (with_reducible exact Ext.refl _) | (with_reducible assumption) | (with_reducible refine Ext.alloc ?_ _) | (with_reducible refine Ext.drew ?_) | (with_reducible refine Ext.drewN ?_ _) | (with_reducible refine Ext.setCell ?_ ?_ _) | (with_reducible refine Ext.trans ?_ (by assumption)))) <;> (first | (with_reducible assumption) | omega | (simp; done) | (simp; omega)))⟩
    · obtain ⟨q, hq0, hq, hqz⟩ := fl_first hz hz0
      have hzz : ((z : Int) = 0) ↔ False := iff_of_false (by omega) id
      have HL := Lib.hid (fun w => list_n z hz w)
      have HA := Lib.hid (aT_first (pr6 n) hf hf0 q hq L z hqz)
      have e1 := mns_pow hz hq
      have HR := Lib.hid (IH.out (mns z (2 ^ q)) (by have := cnt_less (pow36 hq) (bit_ne (pow_bit q)) (prt_pow hq hqz); omega) (mns_lt _ hz))
      have hbd : ∀ y, aT (pr6 n) L y ≤ 36 := fun y => Nat.le_trans (aT_le _ _ _) hlen
      have hAb := hbd (mns z (2 ^ q))
      have HAT := Lib.hid (show ∃ A, A = aT (pr6 n) L z from ⟨_, rfl⟩)
      go_enter Try.func133, Try.ntmps133
      go_wp2_with (first | (go_at_call 150; refine (HL.out _).mono ?_; rintro e w1 ⟨u, rfl, hE, hu⟩; obtain ⟨uo, uc, rfl, ush⟩ := own_shape hu; obtain ⟨ub, rfl, _, ubl⟩ := ush (by have := (List.getElem?_eq_some_iff.1 hq0).1; omega); have u0 := (hu.cellAt 0 (by have := (List.getElem?_eq_some_iff.1 hq0).1; omega)).trans (ints_get _ 0 q hq0); have ulen := (List.getElem?_eq_some_iff.1 hq0).1; clear hu; obtain ⟨wa, rfl⟩ : ∃ x, x = w1 := ⟨_, rfl⟩) | (go_at_call 133; refine (HR.out _ _ _ (own_ext HO.out (by (repeat' (first | (with_reducible exact Ext.refl _) | (with_reducible assumption) | (with_reducible refine Ext.alloc ?_ _) | (with_reducible refine Ext.drew ?_) | (with_reducible refine Ext.drewN ?_ _) | (with_reducible refine Ext.setCell ?_ ?_ _) | (with_reducible refine Ext.trans ?_ (by assumption)))) <;> (first | (with_reducible assumption) | omega | (simp; done) | (simp; omega))))).mono ?_; rintro e w1 ⟨rfl, hE⟩; obtain ⟨wb, rfl⟩ : ∃ x, x = w1 := ⟨_, rfl⟩))
      have hxb : Ext w wb := (by (repeat' (first | (with_reducible exact Ext.refl _) | (with_reducible assumption) | (with_reducible refine Ext.alloc ?_ _) | (with_reducible refine Ext.drew ?_) | (with_reducible refine Ext.drewN ?_ _) | (with_reducible refine Ext.setCell ?_ ?_ _) | (with_reducible refine Ext.trans ?_ (by assumption)))) <;> (first | (with_reducible assumption) | omega | (simp; done) | (simp; omega)))
      go_loopw [8, 27] (fun m i wr => ∃ j M : Nat, j ≤ L.length ∧ M ≤ 37 ∧ i = .int .i64 j ∧ m = .int .i64 (M : Int) ∧ max M (mT (pr6 n) q L z (L.drop j)) = aT (pr6 n) L z ∧ Ext w wr) (fun _ i _ => L.length - (intOf i).toNat)
      case atStart => exact ⟨0, aT (pr6 n) L (mns z (2 ^ q)), Nat.zero_le _, by omega, rfl, rfl, HA.out.symm, hxb⟩
      case round =>
        clear u0 ulen
        obtain ⟨j, M, hj, hM, rfl, rfl, hmx, hx⟩ := hrel
        obtain ⟨wo, rfl⟩ : ∃ wo : World, wo = wr := ⟨_, rfl⟩
        have HM := Lib.hid hmx
        clear hmx
        by_cases hlt : j < L.length
        · obtain ⟨b, rfl, _, hb⟩ := hsh (by omega)
          obtain ⟨k, hk⟩ : ∃ k, L[j]? = some k := ⟨L[j], List.getElem?_eq_getElem hlt⟩
          have hk36 := HG.out j k hk
          have c1 := ((own_ext HO.out hx).cellAt j (by omega)).trans (ints_get L j k hk)
          have HP := Lib.hid (show ∀ w, Calls Try.prog 97 #[.int .u64 (n : Int), .int .i64 (k : Int)] w fun e w' => e = .returned (.int .u64 (pr6 n k : Nat)) ∧ Ext w w' from fun w => pressed_any n k hn hk36 w)
          have HD := Lib.hid (mT_drop (pr6 n) q L z L j k hk)
          have hK := hf k
          have hK0 := hf0 k
          have hTb := hbd (mns z (pr6 n k))
          have HR2 := Lib.hid (fun (hp : prt (pr6 n k) z = true) => IH.out (mns z (pr6 n k)) (by have := cnt_less hK hK0 hp; omega) (mns_lt _ hz))
          have HH := Lib.hid (fun w => has_any (pr6 n k) q hK hq w)
          have e2 := prt_e64 hK hz
          have e3 := prt_e64 hz hK
          rw [show z &&& cmp (pr6 n k) = mns z (pr6 n k) from rfl] at e3
          clear hk
          cases h1 : (pr6 n k).testBit q
          · rw [h1] at HH HD
            have HM2 := Lib.hid (show max M (mT (pr6 n) q L z (L.drop (j + 1))) = aT (pr6 n) L z by rw [← HM.out, HD.out]; simp)
            clear h1 HD HM
            go_wp2_with (first | (go_at_call 97; refine (HP.out _).mono ?_; rintro e w1 ⟨rfl, hE⟩) | (go_at_call 157; refine (HH.out _).mono ?_; rintro e w' ⟨rfl, rfl⟩))
            refine ⟨⟨j + 1, M, by omega, hM, by go_num, rfl, HM2.out, (by (repeat' (first | (with_reducible exact Ext.refl _) | (with_reducible assumption) | (with_reducible refine Ext.alloc ?_ _) | (with_reducible refine Ext.drew ?_) | (with_reducible refine Ext.drewN ?_ _) | (with_reducible refine Ext.setCell ?_ ?_ _) | (with_reducible refine Ext.trans ?_ (by assumption)))) <;> (first | (with_reducible assumption) | omega | (simp; done) | (simp; omega)))⟩, by simp [intOf]; omega⟩
          · rw [h1] at HH HD
            cases h2 : prt (pr6 n k) z
            · rw [h2] at HD
              have hne : ((pr6 n k &&& cmp z : Nat) : Int) ≠ 0 := fun e => by
                unfold prt at h2
                rw [decide_eq_true (by omega)] at h2; cases h2
              have HM2 := Lib.hid (show max M (mT (pr6 n) q L z (L.drop (j + 1))) = aT (pr6 n) L z by rw [← HM.out, HD.out]; simp)
              clear h1 h2 HD HM
              generalize pr6 n k &&& cmp z = X at *
              go_wp2_with (first | (go_at_call 97; refine (HP.out _).mono ?_; rintro e w1 ⟨rfl, hE⟩) | (go_at_call 157; refine (HH.out _).mono ?_; rintro e w' ⟨rfl, rfl⟩))
              refine ⟨⟨j + 1, M, by omega, hM, by go_num, rfl, HM2.out, (by (repeat' (first | (with_reducible exact Ext.refl _) | (with_reducible assumption) | (with_reducible refine Ext.alloc ?_ _) | (with_reducible refine Ext.drew ?_) | (with_reducible refine Ext.drewN ?_ _) | (with_reducible refine Ext.setCell ?_ ?_ _) | (with_reducible refine Ext.trans ?_ (by assumption)))) <;> (first | (with_reducible assumption) | omega | (simp; done) | (simp; omega)))⟩, by simp [intOf]; omega⟩
            · rw [h2] at HD
              have h00 : pr6 n k &&& cmp z = 0 := by unfold prt at h2; exact of_decide_eq_true h2
              rw [h00] at e2
              replace HR2 := Lib.hid (HR2.out h2)
              have HM2 := Lib.hid (show max (max M (1 + aT (pr6 n) L (mns z (pr6 n k)))) (mT (pr6 n) q L z (L.drop (j + 1))) = aT (pr6 n) L z by rw [← HM.out, HD.out]; simp only [Bool.and_self, if_true]; omega)
              clear h1 h2 HD HM h00
              generalize aT (pr6 n) L (mns z (pr6 n k)) = T at *
              go_wp2_with (first | (go_at_call 97; refine (HP.out _).mono ?_; rintro e w1 ⟨rfl, hE⟩) | (go_at_call 157; refine (HH.out _).mono ?_; rintro e w' ⟨rfl, rfl⟩) | (go_at_call 133; refine (HR2.out _ _ _ (own_ext HO.out (by (repeat' (first | (with_reducible exact Ext.refl _) | (with_reducible assumption) | (with_reducible refine Ext.alloc ?_ _) | (with_reducible refine Ext.drew ?_) | (with_reducible refine Ext.drewN ?_ _) | (with_reducible refine Ext.setCell ?_ ?_ _) | (with_reducible refine Ext.trans ?_ (by assumption)))) <;> (first | (with_reducible assumption) | omega | (simp; done) | (simp; omega))))).mono ?_; rintro e w1 ⟨rfl, hE⟩; obtain ⟨wc, rfl⟩ : ∃ x, x = w1 := ⟨_, rfl⟩))
              refine ⟨⟨j + 1, max M (1 + T), by omega, by omega, by go_num, ?_, HM2.out, (by (repeat' (first | (with_reducible exact Ext.refl _) | (with_reducible assumption) | (with_reducible refine Ext.alloc ?_ _) | (with_reducible refine Ext.drew ?_) | (with_reducible refine Ext.drewN ?_ _) | (with_reducible refine Ext.setCell ?_ ?_ _) | (with_reducible refine Ext.trans ?_ (by assumption)))) <;> (first | (with_reducible assumption) | omega | (simp; done) | (simp; omega)))⟩, by simp [intOf]; omega⟩
              exact val_int (by first | (split <;> omega) | omega | (simp <;> omega))
        · obtain rfl : j = L.length := by omega
          have HF := Lib.hid (show (M : Nat) = aT (pr6 n) L z by rw [← HM.out, List.drop_length]; simp [mT])
          go_wp2
          go_returns
          exact ⟨ret_int (by rw [HF.out]), (by (repeat' (first | (with_reducible exact Ext.refl _) | (with_reducible assumption) | (with_reducible refine Ext.alloc ?_ _) | (with_reducible refine Ext.drew ?_) | (with_reducible refine Ext.drewN ?_ _) | (with_reducible refine Ext.setCell ?_ ?_ _) | (with_reducible refine Ext.trans ?_ (by assumption)))) <;> (first | (with_reducible assumption) | omega | (simp; done) | (simp; omega)))⟩
end Go.Proofs.Ytlifhoajamnehaa
set_option linter.unusedVariables false
set_option linter.unusedSimpArgs false
set_option maxRecDepth 100000
set_option maxHeartbeats 1000000
namespace Go.Proofs.Ytlifhoajamnehaa
open Go Go.RowKit
/-! covers -/
/-- all lists of m of the numbers of o, in order, that make t out of b -/
def kV (f : Nat → Nat) (t : Nat) : List Nat → Nat → Nat → List (List Nat)
  | [], m, b => if m = 0 ∧ b = t then [[]] else []
  | k :: o, m, b => if m = 0 then (if b = t then [[]] else []) else (kV f t o (m - 1) (b ||| f k)).map (k :: ·) ++ kV f t o m b
theorem kV_0 (f : Nat → Nat) (t : Nat) (o : List Nat) (b : Nat) : kV f t o 0 b = if b = t then [[]] else [] := by cases o <;> simp [kV]
theorem kV_nil (f : Nat → Nat) (t m b : Nat) : kV f t [] (m + 1) b = [] := by simp [kV]
theorem kV_cons (f : Nat → Nat) (t k : Nat) (o : List Nat) (m b : Nat) : kV f t (k :: o) (m + 1) b = (kV f t o m (b ||| f k)).map (k :: ·) ++ kV f t o (m + 1) b := by
  rw [kV, if_neg (by omega), Nat.add_sub_cancel]
theorem kV_len (f : Nat → Nat) (t : Nat) : ∀ (o : List Nat) (m b : Nat), o.length < m → kV f t o m b = []
  | [], m, b, h => by
    rw [kV, if_neg]
    intro e
    rw [List.length_nil] at h
    omega
  | k :: o, 0, b, h => absurd h (Nat.not_lt_zero _)
  | k :: o, m + 1, b, h => by
    rw [List.length_cons] at h
    rw [kV_cons, kV_len f t o m _ (by omega), kV_len f t o (m + 1) _ (by omega)]; rfl
theorem cnt_or (a b : Nat) : cnt (a ||| b) ≤ cnt a + cnt b := by
  have key : ∀ k, cntN (a ||| b) k ≤ cntN a k + cntN b k := by
    intro k
    induction k with
    | zero => exact Nat.le_refl _
    | succ k ih =>
      rw [cntN, cntN, cntN, Nat.testBit_or]
      cases a.testBit k <;> cases b.testBit k <;> simp <;> omega
  exact key 36
/-- what a set adds -/
theorem cnt_or_mns (b a : Nat) : cnt (b ||| a) = cnt b + cnt (mns a b) := by
  have key : ∀ k, k ≤ 36 → cntN (b ||| a) k = cntN b k + cntN (mns a b) k := by
    intro k
    induction k with
    | zero => intro _; rfl
    | succ k ih =>
      intro hk
      have i := ih (by omega)
      rw [cntN, cntN, cntN, Nat.testBit_or, testBit_mns a b k (by omega)]
      cases a.testBit k <;> cases b.testBit k <;> simp <;> omega
  exact key 36 (Nat.le_refl _)
theorem kV_prune (f : Nat → Nat) (t S : Nat) (hS : ∀ k, cnt (f k) = S) : ∀ (o : List Nat) (m b : Nat), cnt b + m * S < cnt t → kV f t o m b = []
  | o, 0, b, h => by
    rw [kV_0, if_neg]
    intro e
    subst e
    omega
  | [], m + 1, b, _ => kV_nil f t m b
  | k :: o, m + 1, b, h => by
    have h1 := cnt_or b (f k)
    rw [hS k] at h1
    have e : (m + 1) * S = m * S + S := Nat.succ_mul m S
    rw [kV_cons, kV_prune f t S hS o m _ (by omega), kV_prune f t S hS o (m + 1) b h]; rfl
theorem kV_mem (f : Nat → Nat) (t : Nat) : ∀ (o : List Nat) (m b : Nat) (L : List Nat), L ∈ kV f t o m b → L.length = m ∧ ∀ k ∈ L, k ∈ o
  | o, 0, b, L, h => by
    rw [kV_0] at h
    split at h
    · obtain rfl := List.mem_singleton.1 h
      exact ⟨rfl, fun k hk => by cases hk⟩
    · cases h
  | [], m + 1, b, L, h => by rw [kV_nil] at h; cases h
  | k :: o, m + 1, b, L, h => by
    rw [kV_cons, List.mem_append] at h
    rcases h with h | h
    · obtain ⟨M, hM, rfl⟩ := List.mem_map.1 h
      obtain ⟨h1, h2⟩ := kV_mem f t o m _ M hM
      refine ⟨by rw [List.length_cons, h1], fun j hj => ?_⟩
      rcases List.mem_cons.1 hj with rfl | hj
      · exact List.mem_cons_self
      · exact List.mem_cons_of_mem _ (h2 j hj)
    · obtain ⟨h1, h2⟩ := kV_mem f t o (m + 1) b L h
      exact ⟨h1, fun j hj => List.mem_cons_of_mem _ (h2 j hj)⟩
theorem kV_le (f : Nat → Nat) (t : Nat) : ∀ (o : List Nat) (m b : Nat), (kV f t o m b).length ≤ 2 ^ o.length
  | o, 0, b => by
    rw [kV_0]
    have := Nat.pow_pos (n := o.length) (show 0 < 2 by omega)
    split <;> simp <;> omega
  | [], m + 1, b => by rw [kV_nil]; simp
  | k :: o, m + 1, b => by
    have h1 := kV_le f t o m (b ||| f k)
    have h2 := kV_le f t o (m + 1) b
    rw [kV_cons, List.length_append, List.length_map, List.length_cons, Nat.pow_succ]
    omega
/-- the first of six lists that is not empty -/
def bk (K : Nat → List (List Nat)) : Nat → Nat → List (List Nat)
  | _, 0 => []
  | m, n + 1 => if K m = [] then bk K (m + 1) n else K m
theorem cnt_pr6 (m k : Nat) : cnt (pr6 m k) = cnt m := by
  unfold pr6
  rcases Nat.lt_or_ge (k / 6) 6 with h4 | h4
  · exact cnt_sh m (k % 6) (k / 6) (by omega) h4
  · rw [sh_big m _ _ h4]
    exact cnt_sh m (k % 6) 0 (by omega) (by omega)
/-! the greedy way -/
/-- of the first j numbers of L the place of the one that adds most, and how many it adds -/
def gi (f : Nat → Nat) (b : Nat) (L : List Nat) : Nat → Nat × Int
  | 0 => (0, -1)
  | j + 1 => if (gi f b L j).2 < (cnt (mns (f L[j]!) b) : Nat) then (j, (cnt (mns (f L[j]!) b) : Nat)) else gi f b L j
theorem gi_facts (f : Nat → Nat) (b : Nat) (L : List Nat) : ∀ j, 0 < j → (gi f b L j).1 < j ∧ (gi f b L j).2 = (cnt (mns (f L[(gi f b L j).1]!) b) : Nat) ∧ ∀ i, i < j → (cnt (mns (f L[i]!) b) : Int) ≤ (gi f b L j).2
  | 0, h => absurd h (Nat.lt_irrefl 0)
  | 1, _ => by
    have e : gi f b L 1 = (0, ((cnt (mns (f L[0]!) b) : Nat) : Int)) := by
      unfold gi; unfold gi; exact if_pos (show (-1 : Int) < _ by omega)
    rw [e]
    refine ⟨by simp, rfl, fun i hi => ?_⟩
    obtain rfl : i = 0 := by omega
    exact Int.le_refl _
  | j + 2, _ => by
    obtain ⟨h1, h2, h3⟩ := gi_facts f b L (j + 1) (by omega)
    rw [gi]
    split
    · rename_i hlt
      refine ⟨by simp, rfl, fun i hi => ?_⟩
      rcases Nat.lt_or_ge i (j + 1) with h | h
      · have := h3 i h
        dsimp only
        omega
      · obtain rfl : i = j + 1 := by omega
        exact Int.le_refl _
    · rename_i hlt
      refine ⟨by omega, h2, fun i hi => ?_⟩
      rcases Nat.lt_or_ge i (j + 1) with h | h
      · exact h3 i h
      · obtain rfl : i = j + 1 := by omega
        omega
/-- what is black, and the cells, after j presses -/
def gB (f : Nat → Nat) (L : List Nat) : Nat → Nat × List Nat
  | 0 => (0, [])
  | j + 1 => ((gB f L j).1 ||| f L[(gi f (gB f L j).1 L L.length).1]!, (gB f L j).2 ++ [L[(gi f (gB f L j).1 L L.length).1]!])
theorem gB_len (f : Nat → Nat) (L : List Nat) : ∀ j, (gB f L j).2.length = j
  | 0 => rfl
  | j + 1 => by rw [gB, List.length_append, gB_len f L j]; rfl
theorem gB_lt (f : Nat → Nat) (hf : ∀ k, f k < 68719476736) (L : List Nat) : ∀ j, (gB f L j).1 < 68719476736
  | 0 => (by omega : (0 : Nat) < 68719476736)
  | j + 1 => or36 (gB_lt f hf L j) (hf _)
/-- each press adds a cell, as long as not all are black -/
theorem gB_grow (f : Nat → Nat) (hf : ∀ k, f k < 68719476736) (t : Nat) (ht : t < 68719476736) (L : List Nat) (hop : ∀ k ∈ L, prt (f k) t = true) (hall : ∀ q, q < 36 → t.testBit q = true → ∃ k ∈ L, (f k).testBit q = true) :
    ∀ j, (∀ i, i < j → (gB f L i).1 ≠ t) → prt (gB f L j).1 t = true ∧ j ≤ cnt (gB f L j).1 ∧ (0 < j → ∀ k ∈ (gB f L j).2, k ∈ L)
  | 0, _ => ⟨by unfold prt; rw [gB]; simp, Nat.zero_le _, fun h => absurd h (Nat.lt_irrefl 0)⟩
  | j + 1, hne => by
    obtain ⟨h1, h2, h3⟩ := gB_grow f hf t ht L hop hall j fun i hi => hne i (by omega)
    have hb := gB_lt f hf L j
    have hn := hne j (Nat.lt_succ_self j)
    rw [gB]
    generalize hbk : (gB f L j).1 = b at *
    -- a cell that is not black yet
    obtain ⟨q, hq, hqt, hqb⟩ : ∃ q, q < 36 ∧ t.testBit q = true ∧ b.testBit q = false := by
      by_cases h : ∃ q, q < 36 ∧ t.testBit q = true ∧ b.testBit q = false
      · exact h
      · refine absurd (ext36 hb ht fun k hk => ?_) hn
        cases h4 : t.testBit k
        · cases h5 : b.testBit k
          · rfl
          · have := (prt_iff t hb).1 h1 k hk h5
            rw [h4] at this; cases this
        · cases h5 : b.testBit k
          · exact absurd ⟨k, hk, h4, h5⟩ h
          · rfl
    obtain ⟨k, hkL, hkq⟩ := hall q hq hqt
    obtain ⟨i, hi, hik⟩ := List.getElem_of_mem hkL
    have hlen : 0 < L.length := by omega
    obtain ⟨g1, g2, g3⟩ := gi_facts f b L L.length hlen
    have g4 := g3 i hi
    have hbest : L[(gi f b L L.length).1]! ∈ L := by
      rw [getElem!_pos L _ g1]
      exact List.getElem_mem g1
    have hpos : 0 < cnt (mns (f L[i]!) b) := by
      rw [getElem!_pos L i hi, hik]
      refine cnt_pos (mns_lt _ (hf k)) (bit_ne (q := q) ?_)
      rw [testBit_mns _ _ q hq, hkq, hqb]; rfl
    generalize (gi f b L L.length) = G at *
    have hc := cnt_or_mns b (f L[G.1]!)
    refine ⟨?_, by dsimp only; omega, fun _ x hx => ?_⟩
    · refine (prt_iff t (or36 hb (hf _))).2 fun x hx hxb => ?_
      rw [Nat.testBit_or, Bool.or_eq_true] at hxb
      rcases hxb with hxb | hxb
      · exact (prt_iff t hb).1 h1 x hx hxb
      · exact (prt_iff t (hf _)).1 (hop _ hbest) x hx hxb
    · rcases List.mem_append.1 hx with hx | hx
      · rcases Nat.eq_zero_or_pos j with rfl | hj
        · rw [gB] at hx; cases hx
        · exact h3 hj x hx
      · obtain rfl := List.mem_singleton.1 hx
        exact hbest
/-- how many presses there are -/
theorem gB_end (f : Nat → Nat) (hf : ∀ k, f k < 68719476736) (t : Nat) (ht : t < 68719476736) (L : List Nat) (hop : ∀ k ∈ L, prt (f k) t = true) (hall : ∀ q, q < 36 → t.testBit q = true → ∃ k ∈ L, (f k).testBit q = true) :
    ∃ N, N ≤ 36 ∧ (gB f L N).1 = t ∧ ∀ i, i < N → (gB f L i).1 ≠ t := by
  have key : ∀ n, (∃ N, N ≤ n ∧ (gB f L N).1 = t ∧ ∀ i, i < N → (gB f L i).1 ≠ t) ∨ ∀ i, i ≤ n → (gB f L i).1 ≠ t := by
    intro n
    induction n with
    | zero =>
      by_cases h : (gB f L 0).1 = t
      · exact .inl ⟨0, Nat.le_refl _, h, fun i hi => absurd hi (Nat.not_lt_zero _)⟩
      · refine .inr fun i hi => ?_
        obtain rfl : i = 0 := by omega
        exact h
    | succ n ih =>
      rcases ih with ⟨N, h1, h2, h3⟩ | h
      · exact .inl ⟨N, by omega, h2, h3⟩
      · by_cases h4 : (gB f L (n + 1)).1 = t
        · exact .inl ⟨n + 1, Nat.le_refl _, h4, fun i hi => h i (by omega)⟩
        · refine .inr fun i hi => ?_
          rcases Nat.lt_or_ge i (n + 1) with h5 | h5
          · exact h i (by omega)
          · obtain rfl : i = n + 1 := by omega
            exact h4
  rcases key 36 with h | h
  · exact h
  · have h1 := (gB_grow f hf t ht L hop hall 36 fun i hi => h i (by omega))
    have h2 := (gB_grow f hf t ht L hop hall 37 fun i hi => h i (by omega)).2.1
    have h3 := cnt_le (gB f L 37).1
    omega
/-- what presses at all cells of a list make black -/
theorem testBit_inkC (m : Nat) (q : Nat) : ∀ (L : List Nat) (b : Nat), (L.foldl (fun o k => o ||| sh m (k % 6) (k / 6)) b).testBit q = true → b.testBit q = true ∨ ∃ k ∈ L, (pr6 m k).testBit q = true
  | [], b, h => .inl h
  | k :: L, b, h => by
    rcases testBit_inkC m q L _ h with h1 | ⟨j, hj, h1⟩
    · rw [Nat.testBit_or, Bool.or_eq_true] at h1
      rcases h1 with h1 | h1
      · exact .inl h1
      · exact .inr ⟨k, List.mem_cons_self, h1⟩
    · exact .inr ⟨j, List.mem_cons_of_mem _ hj, h1⟩
theorem inkL_bit (m q : Nat) (L : List Nat) (h : (inkL m L).testBit q = true) : ∃ k ∈ L, (pr6 m k).testBit q = true := by
  rcases testBit_inkC m q L 0 h with h1 | h1
  · rw [Nat.zero_testBit] at h1; cases h1
  · exact h1
theorem gB_mem (f : Nat → Nat) (L : List Nat) (hG : ∀ (i k : Nat), L[i]? = some k → k < 36) (h0 : 0 < L.length) : ∀ (j i k : Nat), (gB f L j).2[i]? = some k → k < 36
  | 0, i, k, h => by unfold gB at h; simp at h
  | j + 1, i, k, h => by
    rw [gB] at h
    obtain ⟨g1, _⟩ := gi_facts f (gB f L j).1 L L.length h0
    have hm := List.mem_of_getElem? h
    rcases List.mem_append.1 hm with h1 | h1
    · obtain ⟨q, hq, e⟩ := List.getElem_of_mem h1
      exact gB_mem f L hG h0 j q k (by rw [List.getElem?_eq_getElem hq, e])
    · obtain rfl := List.mem_singleton.1 h1
      refine hG (gi f (gB f L j).1 L L.length).1 _ ?_
      rw [getElem!_pos L _ g1, List.getElem?_eq_getElem g1]
theorem gi_1 (f : Nat → Nat) (b : Nat) (L : List Nat) (j : Nat) : gi f b L (j + 1) = if (gi f b L j).2 < (cnt (mns (f L[j]!) b) : Nat) then (j, ((cnt (mns (f L[j]!) b) : Nat) : Int)) else gi f b L j := rfl
theorem gi_0 (f : Nat → Nat) (b : Nat) (L : List Nat) : gi f b L 0 = (0, -1) := rfl
theorem gB_0 (f : Nat → Nat) (L : List Nat) : gB f L 0 = (0, []) := rfl
theorem gB_1 (f : Nat → Nat) (L : List Nat) (j : Nat) : gB f L (j + 1) = ((gB f L j).1 ||| f L[(gi f (gB f L j).1 L L.length).1]!, (gB f L j).2 ++ [L[(gi f (gB f L j).1 L L.length).1]!]) := rfl
attribute [irreducible] gi gB
end Go.Proofs.Ytlifhoajamnehaa
set_option linter.unusedVariables false
set_option linter.unusedSimpArgs false
set_option maxRecDepth 100000
set_option maxHeartbeats 1000000
namespace Go.Proofs.Ytlifhoajamnehaa
open Go Go.RowKit
/-! arrays of many numbers: a block, by what it holds -/
def av (N : Nat) (g : Nat → Int) : Array Value := ((List.range N).map fun i => Value.int .i64 (g i)).toArray
theorem av_size (N : Nat) (g : Nat → Int) : (av N g).size = N := by unfold av; simp
theorem av_get {N : Nat} {g : Nat → Int} {j : Nat} (h : j < N) : (av N g)[j]? = some (.int .i64 (g j)) := by unfold av; simp [h]
theorem av_one (N : Nat) (g : Nat → Int) : ∀ v ∈ (av N g).toList, v.oneCell' = true := by
  unfold av
  intro v hv
  simp at hv
  obtain ⟨i, _, rfl⟩ := hv
  rfl
theorem av_congr {N : Nat} {g h : Nat → Int} (e : ∀ i, i < N → g i = h i) : av N g = av N h := by
  unfold av
  refine congrArg List.toArray (List.map_congr_left fun i hi => ?_)
  rw [e i (List.mem_range.1 hi)]
theorem av_set (N : Nat) (g : Nat → Int) (j : Nat) (v : Int) : (av N g).setIfInBounds j (.int .i64 v) = av N (fun i => if i = j then v else g i) := by
  refine Array.ext_getElem? fun i => ?_
  rw [Array.getElem?_setIfInBounds, av_size]
  by_cases h : i < N
  · rw [av_get h, av_get h]
    by_cases e : j = i
    · subst e; simp [h]
    · rw [if_neg e, if_neg (Ne.symm e)]
  · rw [Array.getElem?_eq_none (by rw [av_size]; omega), Array.getElem?_eq_none (by rw [av_size]; omega)]
    by_cases e : j = i
    · subst e; simp [h]
    · rw [if_neg e]
def Big (w : World) (b : Nat) (T : TypeId) (N : Nat) (g : Nat → Int) : Prop := w.heap[b]? = some (.cells (av N g) T (0, 0))
theorem Big.lt {w : World} {b : Nat} {T : TypeId} {N : Nat} {g : Nat → Int} (h : Big w b T N g) : b < w.heap.size := row_lt h
theorem Big.ext {w w' : World} {b : Nat} {T : TypeId} {N : Nat} {g : Nat → Int} (h : Big w b T N g) (hx : Ext w w') : Big w' b T N g := (hx.at h.lt).trans h
theorem Big.cell {w : World} {b : Nat} {T : TypeId} {N : Nat} {g : Nat → Int} (h : Big w b T N g) {j : Nat} (hj : j < N) : w.cell? ⟨b, j, none⟩ = some (.int .i64 (g j)) := (cell_of_row w b j _ T _ h).trans (av_get hj)
theorem Big.free {w : World} {b : Nat} {T : TypeId} {N : Nat} {g : Nat → Int} (h : Big w b T N g) (j : Nat) : w.frozen? ⟨b, j, none⟩ = false := frozen_of_row w b j _ T h
theorem Big.far {w : World} {b : Nat} {T : TypeId} {N : Nat} {g : Nat → Int} (h : Big w b T N g) {p : Addr} (hp : b ≠ p.block) (v : Value) : Big (w.setCell p v) b T N g := (heap_setCell_other w p b v hp).trans h
theorem Big.set {w : World} {b : Nat} {T : TypeId} {N : Nat} {g : Nat → Int} (h : Big w b T N g) (j : Nat) (v : Int) : Big (w.setCell ⟨b, j, none⟩ (.int .i64 v)) b T N (fun i => if i = j then v else g i) := by
  have := heap_setCell_same w b j _ T (.int .i64 v) h
  rw [av_set] at this
  exact this
theorem Big.congr {w : World} {b : Nat} {T : TypeId} {N : Nat} {g k : Nat → Int} (h : Big w b T N g) (e : ∀ i, i < N → g i = k i) : Big w b T N k := by unfold Big at *; rw [h, av_congr e]
theorem Big.only {w w' : World} {b c : Nat} {T : TypeId} {N : Nat} {g : Nat → Int} (h : Big w b T N g) (o : Only c w w') (hc : b ≠ c) : Big w' b T N g := (o.block b hc).trans h
theorem Arr.only {w w' : World} {b c : Nat} {g : Nat → Int} (h : Arr w b g) (o : Only c w w') (hc : b ≠ c) : Arr w' b g := fun j hj =>
  ⟨(World.cell?_of_block (w := w) (a := ⟨b, j, none⟩) (o.block b hc)).trans (h j hj).1, (World.frozen?_of_block (w := w) (a := ⟨b, j, none⟩) (o.block b hc)).trans (h j hj).2⟩
theorem Big.new (w : World) (T : TypeId) (N : Nat) (g : Nat → Int) {b : Nat} (hb : b = w.heap.size) : Big (w.alloc (.cells (av N g) T)) b T N g := by
  subst hb; exact heap_alloc_new w _
/-- how many cells a stamp, pressed at the cell with a number, has in common with a sheet -/
def cm (n m k : Nat) : Nat := cnt (n &&& sh m (k % 6) (k / 6))
theorem cm_le (n m k : Nat) : cm n m k ≤ 36 := cnt_le _
/-- of the cells below k, how many have c in common -/
def tbl (f : Nat → Nat) : Nat → Nat → Nat
  | 0, _ => 0
  | k + 1, c => if c = f k then tbl f k c + 1 else tbl f k c
theorem tbl_le (f : Nat → Nat) : ∀ k c, tbl f k c ≤ k
  | 0, _ => Nat.le_refl 0
  | k + 1, c => by
    have := tbl_le f k c
    rw [tbl]; split <;> omega
def tbI (f : Nat → Nat) (k c : Nat) : Int := (tbl f k c : Nat)
theorem tbI_step (f : Nat → Nat) (k c : Nat) : (if c = f k then tbI f k (f k) + 1 else tbI f k c) = tbI f (k + 1) c := by
  unfold tbI
  rw [tbl]
  split
  · rename_i h; subst h; omega
  · rfl
theorem tbI_0 (f : Nat → Nat) (c : Nat) : tbI f 0 c = 0 := rfl
theorem zeros37 : (#[.int .i64 0, .int .i64 0, .int .i64 0, .int .i64 0, .int .i64 0, .int .i64 0, .int .i64 0, .int .i64 0, .int .i64 0, .int .i64 0, .int .i64 0, .int .i64 0, .int .i64 0, .int .i64 0, .int .i64 0, .int .i64 0, .int .i64 0, .int .i64 0, .int .i64 0, .int .i64 0, .int .i64 0, .int .i64 0, .int .i64 0, .int .i64 0, .int .i64 0, .int .i64 0, .int .i64 0, .int .i64 0, .int .i64 0, .int .i64 0, .int .i64 0, .int .i64 0, .int .i64 0, .int .i64 0, .int .i64 0, .int .i64 0, .int .i64 0] : Array Value) = av 37 (fun _ => 0) := by kernel_rfl
theorem size37 : (Try.prog.info? 53).map (·.size) = some 37 := by kernel_rfl
theorem Big.load37 {w : World} {b : Nat} {T : TypeId} {g : Nat → Int} (h : Big w b T 37 g) : (loadVar 53 ⟨b, 0, none⟩).run Try.prog w = .ok (.agg (av 37 g)) w :=
  run_loadVar_row w b T 53 (av 37 g) (0, 0) _ h Try.underlying53 rfl (by rw [av_size]; exact size37)
theorem zeros36 : (#[.int .i64 0, .int .i64 0, .int .i64 0, .int .i64 0, .int .i64 0, .int .i64 0, .int .i64 0, .int .i64 0, .int .i64 0, .int .i64 0, .int .i64 0, .int .i64 0, .int .i64 0, .int .i64 0, .int .i64 0, .int .i64 0, .int .i64 0, .int .i64 0, .int .i64 0, .int .i64 0, .int .i64 0, .int .i64 0, .int .i64 0, .int .i64 0, .int .i64 0, .int .i64 0, .int .i64 0, .int .i64 0, .int .i64 0, .int .i64 0, .int .i64 0, .int .i64 0, .int .i64 0, .int .i64 0, .int .i64 0, .int .i64 0] : Array Value) = av 36 (fun _ => 0) := by kernel_rfl
theorem size36 : (Try.prog.info? 65).map (·.size) = some 36 := by kernel_rfl
theorem Big.load36 {w : World} {b : Nat} {T : TypeId} {g : Nat → Int} (h : Big w b T 36 g) : (loadVar 65 ⟨b, 0, none⟩).run Try.prog w = .ok (.agg (av 36 g)) w :=
  run_loadVar_row w b T 65 (av 36 g) (0, 0) _ h Try.underlying65 rfl (by rw [av_size]; exact size36)
theorem wpList_alloc_av {P : Program} {ops : Array Oper} {rest : List Oper} {o : Oper} {a : Act} {w : World} {Q : Exit → Act → World → Prop} {c : Array Value × TypeId} (hgd : o.guard = none) (hm : Makes P o a c)
    (k : wpList P ops Q rest (a.put o.dst (.pointer (some ⟨w.heap.size, 0, none⟩))) (w.alloc (.cells c.1 c.2))) : wpList P ops Q (o :: rest) a w :=
  wpList_plain hgd fun K hK => by
    unfold Oper.wp
    rw [hm w]
    exact hK _ _ k
theorem makes37 {o : Oper} {a : Act} (ho : o.op = .alloc 53) : Makes Try.prog o a (av 37 (fun _ => 0), 53) := fun w => by
  rw [← zeros37]
  simp only [execOp, ho]
  go_simp
theorem results37 {fn : Func} {p : Tmp} {tmps : Array Value} {w : World} {b : Nat} {T : TypeId} {g : Nat → Int} (h : fn.results = #[.cell p 53]) (hp : tmps.getD p undef = .pointer (some ⟨b, 0, none⟩)) (hb : Big w b T 37 g) : (results fn tmps).run Try.prog w = .ok (.agg (av 37 g)) w :=
  ret_cell h hp hb.load37
theorem results37_tmp {fn : Func} {p u : Tmp} {tmps : Array Value} {w : World} {b : Nat} {T : TypeId} {g : Nat → Int} {x : Value} (h : fn.results = #[.cell p 53, .tmp u]) (hp : tmps.getD p undef = .pointer (some ⟨b, 0, none⟩)) (hx : tmps.getD u undef = x) (hb : Big w b T 37 g) : (results fn tmps).run Try.prog w = .ok (.tuple #[.agg (av 37 g), x]) w :=
  ret_cell_tmp h hp hx hb.load37
theorem sz37 (g : Nat → Int) : (Try.prog.info? 53).map (·.size) = some (av 37 g).size := by rw [av_size]; exact size37
theorem szz (N : Nat) (g h : Nat → Int) : (av N g).size = (av N h).size := by rw [av_size, av_size]
theorem makes36 {o : Oper} {a : Act} (ho : o.op = .alloc 65) : Makes Try.prog o a (av 36 (fun _ => 0), 65) := fun w => by
  rw [← zeros36]
  simp only [execOp, ho]
  go_simp
theorem results36 {fn : Func} {p : Tmp} {tmps : Array Value} {w : World} {b : Nat} {T : TypeId} {g : Nat → Int} (h : fn.results = #[.cell p 65]) (hp : tmps.getD p undef = .pointer (some ⟨b, 0, none⟩)) (hb : Big w b T 36 g) : (results fn tmps).run Try.prog w = .ok (.agg (av 36 g)) w :=
  ret_cell h hp hb.load36
theorem results36_tmp {fn : Func} {p u : Tmp} {tmps : Array Value} {w : World} {b : Nat} {T : TypeId} {g : Nat → Int} {x : Value} (h : fn.results = #[.cell p 65, .tmp u]) (hp : tmps.getD p undef = .pointer (some ⟨b, 0, none⟩)) (hx : tmps.getD u undef = x) (hb : Big w b T 36 g) : (results fn tmps).run Try.prog w = .ok (.tuple #[.agg (av 36 g), x]) w :=
  ret_cell_tmp h hp hx hb.load36
theorem sz36 (g : Nat → Int) : (Try.prog.info? 65).map (·.size) = some (av 36 g).size := by rw [av_size]; exact size36
theorem szz6 (N : Nat) (g h : Nat → Int) : (av N g).size = (av N h).size := by rw [av_size, av_size]
theorem wpList_value {P : Program} {ops : Array Oper} {rest : List Oper} {o : Oper} {a : Act} {w : World} {Q : Exit → Act → World → Prop} {v : Value} (hgd : o.guard = none) (hv : (execOp a.eval o).run P w = .ok (.value v) w)
    (k : wpList P ops Q rest (a.put o.dst v) w) : wpList P ops Q (o :: rest) a w :=
  wpList_plain hgd fun K hK => by
    unfold Oper.wp
    rw [hv]
    exact hK _ _ k
theorem build37 {o : Oper} {a : Act} {w : World} (ho : o.op = .build 53 #[]) : (execOp a.eval o).run Try.prog w = .ok (.value (.agg (av 37 (fun _ => 0)))) w := by
  rw [← zeros37]
  simp only [execOp, ho]
  go_simp
theorem Big.new37 (w : World) (T : TypeId) {b : Nat} (hb : b = w.heap.size) : Big (w.alloc (.cells #[.int .i64 0, .int .i64 0, .int .i64 0, .int .i64 0, .int .i64 0, .int .i64 0, .int .i64 0, .int .i64 0, .int .i64 0, .int .i64 0, .int .i64 0, .int .i64 0, .int .i64 0, .int .i64 0, .int .i64 0, .int .i64 0, .int .i64 0, .int .i64 0, .int .i64 0, .int .i64 0, .int .i64 0, .int .i64 0, .int .i64 0, .int .i64 0, .int .i64 0, .int .i64 0, .int .i64 0, .int .i64 0, .int .i64 0, .int .i64 0, .int .i64 0, .int .i64 0, .int .i64 0, .int .i64 0, .int .i64 0, .int .i64 0, .int .i64 0] T)) b T 37 (fun _ => 0) := by
  rw [zeros37]; exact Big.new w T 37 _ hb
theorem build36 {o : Oper} {a : Act} {w : World} (ho : o.op = .build 65 #[]) : (execOp a.eval o).run Try.prog w = .ok (.value (.agg (av 36 (fun _ => 0)))) w := by
  rw [← zeros36]
  simp only [execOp, ho]
  go_simp
theorem Big.new36 (w : World) (T : TypeId) {b : Nat} (hb : b = w.heap.size) : Big (w.alloc (.cells #[.int .i64 0, .int .i64 0, .int .i64 0, .int .i64 0, .int .i64 0, .int .i64 0, .int .i64 0, .int .i64 0, .int .i64 0, .int .i64 0, .int .i64 0, .int .i64 0, .int .i64 0, .int .i64 0, .int .i64 0, .int .i64 0, .int .i64 0, .int .i64 0, .int .i64 0, .int .i64 0, .int .i64 0, .int .i64 0, .int .i64 0, .int .i64 0, .int .i64 0, .int .i64 0, .int .i64 0, .int .i64 0, .int .i64 0, .int .i64 0, .int .i64 0, .int .i64 0, .int .i64 0, .int .i64 0, .int .i64 0, .int .i64 0] T)) b T 36 (fun _ => 0) := by
  rw [zeros36]; exact Big.new w T 36 _ hb
end Go.Proofs.Ytlifhoajamnehaa
set_option linter.unusedVariables false
set_option linter.unusedSimpArgs false
set_option maxRecDepth 100000
set_option maxHeartbeats 4000000
namespace Go.Proofs.Ytlifhoajamnehaa
open Go Go.RowKit Instr
theorem rw0T (j : Nat) : rw 0 j = 0 := by rw [rw_nat]; unfold rowN; rw [Nat.zero_div]; rfl
theorem eql0 {z : Nat} (hz : z < 68719476736) (b : Bool) (h : decide (z = 0) = b) : ∀ w, (binOp .eql 26 (.agg #[.int .i64 (rw z 0), .int .i64 (rw z 1), .int .i64 (rw z 2), .int .i64 (rw z 3), .int .i64 (rw z 4), .int .i64 (rw z 5)]) (.agg #[.int .i64 0, .int .i64 0, .int .i64 0, .int .i64 0, .int .i64 0, .int .i64 0])).run Try.prog w = .ok (.bool b) w := by
  have e := eql_is (rw z) (rw 0) b (by rw [eqS_rw hz (by omega)]; exact h)
  simp only [rw0T] at e
  exact e
theorem arr_grow {w w' : World} {b : Nat} {g : Nat → Int} {row : Option Nat} (h : Arr w b g) (hg : w.grownBy w' row) (hb : b < w.heap.size) (hne : some b ≠ row) : Arr w' b g := fun j hj =>
  ⟨(World.cell?_of_block (a := ⟨b, j, none⟩) (hg.block b hb hne)).trans (h j hj).1, (World.frozen?_of_block (a := ⟨b, j, none⟩) (hg.block b hb hne)).trans (h j hj).2⟩
theorem l6Tilings_n (n : Nat) (hn : n < 68719476736) (h0 : n ≠ 0) : ∀ (N : Nat) (O : List Nat), O.length < N → (∀ (i k : Nat), O[i]? = some k → k < 36) → O.length ≤ 36 → ∀ (z : Nat), z < 68719476736 → ∀ (D : List Nat), D.length + cnt z ≤ 36 → ∀ (v u : Value) (w : World), RawL w v O → Inn w u D →
    Calls Try.prog 120 #[(.agg #[.int .i64 (rw n 0), .int .i64 (rw n 1), .int .i64 (rw n 2), .int .i64 (rw n 3), .int .i64 (rw n 4), .int .i64 (rw n 5)]), (.agg #[.int .i64 (rw z 0), .int .i64 (rw z 1), .int .i64 (rw z 2), .int .i64 (rw z 3), .int .i64 (rw z 4), .int .i64 (rw z 5)]), v, u] w fun e w' => ∃ r, e = .returned r ∧ Ext w w' ∧ LLs w' w.heap.size r (tl (pr6 n) O z D)
  | 0, O, hN, _, _, _, _, _, _, _, _, _, _, _ => absurd hN (Nat.not_lt_zero _)
  | N + 1, O, hN, hG, hlen, z, hz, D, hD, v, u, w, hr, hu => by
    have IH := Lib.hid (l6Tilings_n n hn h0 N)
    have hf := pr6_lt n
    have hf0 := pr6_ne hn h0
    obtain ⟨i0, hi, iz0, iz1, iz2⟩ := info_parts info_two
    obtain ⟨s0, si, sz0, sz1, sz2⟩ := info_parts info_sl
    obtain ⟨ao, cap, rfl, hcap, hsh⟩ := hr
    have HIN := Lib.hid hu
    obtain ⟨ub, uo, uc, ucur, rfl, huc, hub, _⟩ := hu
    have hul := row_lt hub
    have HS := Lib.hid hsh
    have HG := Lib.hid hG
    clear hG hsh hub
    by_cases hz0 : z = 0
    · subst hz0
      rw [tl_0]
      have ez := eql0 hz true rfl
      skip
      go_enter Try.func120, Try.ntmps120
      have HC1 := Lib.hid (inn_cells HIN.out).2
      have HC2 := Lib.hid (pxy_length D)
      have HC3 := Lib.hid (pxy_ones D)
      have HOE := Lib.hid (own_empty ((w.alloc (.cells #[.int .i64 (rw n 0), .int .i64 (rw n 1), .int .i64 (rw n 2), .int .i64 (rw n 3), .int .i64 (rw n 4), .int .i64 (rw n 5)] 26)).alloc (.cells #[.int .i64 (rw 0 0), .int .i64 (rw 0 1), .int .i64 (rw 0 2), .int .i64 (rw 0 3), .int .i64 (rw 0 4), .int .i64 (rw 0 5)] 26)) 28 1 w.heap.size (by simp; omega) (b := w.heap.size + 1 + 1) (by simp))
      go_wp2_with (first | (at_builtin; refine wpList_append_new (by rfl) _ _ 28 (by rfl) 33 i0 (.agg #[.int .i64 0, .int .i64 0]) 2 16 Try.underlying28 hi iz0 iz1 iz2 (by rfl) (by decide) (w.heap.size + 1 + 1 + 1) (by rfl) (own_empty _ 33 2 _ (by simp) (by simp)) ⟨ub, uo, none⟩ D.length uc (by rfl) (pxy D) (fun j u h => by rw [Go.WideShapes.add_plain]; have h1 := HC1.out j u h; rw [Go.WideShapes.add_plain] at h1; exact (((((((Ext.refl w).alloc _).alloc _).alloc _).alloc _)).cells ub _ hul).trans h1) HC2.out HC3.out (by unfold maxLen; omega) (by omega) w.heap.size (by omega) ?_; intro b1 c1 w1 hE1 hown1; have HI1 := Lib.hid (show OwnI w.heap.size _ _ D from ⟨⟨_, _, rfl⟩, hown1⟩); have HO2 := Lib.hid (own_ext (own_ext HOE.out ((Ext.refl _).alloc (.cells #[] 33))) hE1); have HX1 := Lib.hid ((by (repeat' (first | (with_reducible exact Ext.refl _) | (with_reducible assumption) | (with_reducible refine Ext.alloc ?_ _) | (with_reducible refine Ext.drew ?_) | (with_reducible refine Ext.drewN ?_ _) | (with_reducible refine Ext.setCell ?_ ?_ _) | (with_reducible refine Ext.trans ?_ (by assumption)))) <;> (first | (with_reducible assumption) | omega | (simp; done) | (simp; omega))) : Ext w w1); obtain ⟨wp, rfl⟩ : ∃ x, x = w1 := ⟨_, rfl⟩) | (at_builtin; refine wpList_append_own _ (by rfl) _ _ 119 (by rfl) w.heap.size 28 s0 (.slice none 0 0) 1 24 Try.underlying119 si sz0 sz1 sz2 (by rfl) (by decide) _ _ _ (by rfl) (HO2.out.alloc _) ⟨_, 0, none⟩ 1 1 [.slice (some ⟨b1, 0, none⟩) D.length c1] (by rfl) (by rfl) one_cell (by simp [Value.oneCell']) (by unfold maxLen; omega) (by omega) (by have := HX1.out.size; simp; omega) ?_; intro v1 w2 hown hgrow _))
      have HP := Lib.hid (own_push HX1.out (Nat.le_refl _) HO2.out hgrow).1
      have HIn := Lib.hid (owni_grown (owni_ext HI1.out ((Ext.refl wp).alloc (.cells #[.slice (some ⟨b1, 0, none⟩) D.length c1] 28))) (HO2.out.alloc _) hgrow)
      go_returns
      exact ⟨_, rfl, HP.out, [.slice (some ⟨b1, 0, none⟩) D.length c1], hown, llv_one HIn.out⟩
    · have ez := eql0 hz false (decide_eq_false hz0)
      have HTL := Lib.hid (tl_len (pr6 n) hf hf0 O z D)
      have HCT := Lib.hid (cT_le (pr6 n) O z)
      have HA0 := Lib.hid (tA_0 (pr6 n) O z D)
      have HAS := Lib.hid (fun (i k : Nat) (h : O[i]? = some k) => tA_s (pr6 n) O z D h)
      have HAA := Lib.hid (tA_all (pr6 n) O hz0 D)
      have HAL := Lib.hid (fun i (h : i ≤ O.length) => tA_le (pr6 n) O hz0 D h)
      skip
      go_enter Try.func120, Try.ntmps120
      go_wp2
      go_loopw [9, 10] (fun o i wr => ∃ j : Nat, j ≤ O.length ∧ i = .int .i64 j ∧ Ext w wr ∧ Arr wr w.heap.size (rw n) ∧ Arr wr (w.heap.size + 1) (rw z) ∧ w.heap.size + 2 < wr.heap.size ∧ LLs wr (w.heap.size + 2) o (tA (pr6 n) O z D j)) (fun _ i _ => O.length - (intOf i).toNat)
      case atStart => exact ⟨0, Nat.zero_le _, rfl, (by (repeat' (first | (with_reducible exact Ext.refl _) | (with_reducible assumption) | (with_reducible refine Ext.alloc ?_ _) | (with_reducible refine Ext.drew ?_) | (with_reducible refine Ext.drewN ?_ _) | (with_reducible refine Ext.setCell ?_ ?_ _) | (with_reducible refine Ext.trans ?_ (by assumption)))) <;> (first | (with_reducible assumption) | omega | (simp; done) | (simp; omega))), ((Arr.new w (rw n) _ rfl).alloc _ (by simp)).alloc _ (by first | (simp; done) | (simp; omega)), (Arr.new _ (rw z) _ (by simp)).alloc _ (by simp), by simp, by rw [HA0.out]; exact ⟨[], own_empty _ 28 1 _ (by simp) (by simp), llv_nil _ _⟩⟩
      case round =>
        obtain ⟨j, hj, rfl, hx, ha, hb, hz2, hll⟩ := hrel
        obtain ⟨wo, rfl⟩ : ∃ wo : World, wo = wr := ⟨_, rfl⟩
        have HA := Lib.hid ha
        have HB := Lib.hid hb
        have HLL := Lib.hid hll
        clear ha hb hll
        obtain ⟨vs, hown, _⟩ := HLL.out
        obtain ⟨oo, oc, rfl, _⟩ := own_shape hown
        clear hown
        have za : w.heap.size < wo.heap.size := by omega
        have zb : w.heap.size + 1 < wo.heap.size := by omega
        by_cases hlt : j < O.length
        · obtain ⟨b, o, rfl, hbw, hcl⟩ := HS.out (by omega)
          obtain ⟨k, hk⟩ : ∃ k, O[j]? = some k := ⟨O[j], List.getElem?_eq_getElem hlt⟩
          have hk36 := HG.out j k hk
          have hsz := hx.size
          have hvo : b < wo.heap.size := by omega
          have hdec : O.length - (j + 1) < O.length - j := by omega
          have p1 := (hx.cells _ _ hbw).trans (hcl j k hk).1
          have p2 := (hx.cells _ _ hbw).trans (hcl j k hk).2
          have HC := Lib.hid hcl
          have HD := Lib.hid (HAS.out j k hk)
          have hK := hf k
          have HT := Lib.hid (show ∀ w, Calls Try.prog 154 #[(.agg #[.int .i64 (rw n 0), .int .i64 (rw n 1), .int .i64 (rw n 2), .int .i64 (rw n 3), .int .i64 (rw n 4), .int .i64 (rw n 5)]), (.agg #[.int .i64 (((k % 6 : Nat) : Int)), .int .i64 (((k / 6 : Nat) : Int))])] w fun e w' => e = .returned (.agg #[.int .i64 (rw (pr6 n k) 0), .int .i64 (rw (pr6 n k) 1), .int .i64 (rw (pr6 n k) 2), .int .i64 (rw (pr6 n k) 3), .int .i64 (rw (pr6 n k) 4), .int .i64 (rw (pr6 n k) 5)]) ∧ Ext w w' from fun w => l2At_n n (k % 6) (k / 6) (by omega) (by omega) w)
          have HP := Lib.hid (fun c (hc : prt (pr6 n k) z = c) w => l2Part_n (pr6 n k) z hK c hc w)
          have Q := Lib.hid (show pxy [k] = [.int .i64 ((k % 6 : Nat) : Int), .int .i64 ((k / 6 : Nat) : Int)] from rfl)
          obtain ⟨⟨c0, c1, c2, c3, c4, c5⟩, _⟩ := HA.out.all
          obtain ⟨⟨e0, e1, e2, e3, e4, e5⟩, _⟩ := HB.out.all
          clear hcl hk
          generalize k % 6 = kx at *
          generalize k / 6 = ky at *
          skip
          go_wp2
          refine wp_perm [(0, true), (1, true), (2, true), (3, true), (4, true), (5, true), (6, false), (7, false)] [] (by kernel_rfl) (by kernel_rfl) ?_; simp only [pickO, pickT, List.getElem?_cons_succ, List.getElem?_cons_zero]; intro hgr; (refine walkP_step (fun K hK => ?_); go_simp; (try (go_ints; try go_simp)); first | (refine hK _ ?_; clear hK K) | (apply Exists.intro; refine ⟨fun _ => ?_, hK _ ?_⟩; ((go_at_call 154; exact (HT.out _))); clear hK K) | (simp only [↓IntWalk.iteOmega]; (try go_simp); (try (go_ints; try go_simp)); first | (refine hK _ ?_; clear hK K) | (apply Exists.intro; refine ⟨fun _ => ?_, hK _ ?_⟩; ((go_at_call 154; exact (HT.out _))); clear hK K))); (refine walkP_step (fun K hK => ?_); go_simp; (try (go_ints; try go_simp)); first | (refine hK _ ?_; clear hK K) | (apply Exists.intro; refine ⟨fun _ => ?_, hK _ ?_⟩; ((go_at_call 154; exact (HT.out _))); clear hK K) | (simp only [↓IntWalk.iteOmega]; (try go_simp); (try (go_ints; try go_simp)); first | (refine hK _ ?_; clear hK K) | (apply Exists.intro; refine ⟨fun _ => ?_, hK _ ?_⟩; ((go_at_call 154; exact (HT.out _))); clear hK K))); (refine walkP_step (fun K hK => ?_); go_simp; (try (go_ints; try go_simp)); first | (refine hK _ ?_; clear hK K) | (apply Exists.intro; refine ⟨fun _ => ?_, hK _ ?_⟩; ((go_at_call 154; exact (HT.out _))); clear hK K) | (simp only [↓IntWalk.iteOmega]; (try go_simp); (try (go_ints; try go_simp)); first | (refine hK _ ?_; clear hK K) | (apply Exists.intro; refine ⟨fun _ => ?_, hK _ ?_⟩; ((go_at_call 154; exact (HT.out _))); clear hK K))); (refine walkP_step (fun K hK => ?_); go_simp; (try (go_ints; try go_simp)); first | (refine hK _ ?_; clear hK K) | (apply Exists.intro; refine ⟨fun _ => ?_, hK _ ?_⟩; ((go_at_call 154; exact (HT.out _))); clear hK K) | (simp only [↓IntWalk.iteOmega]; (try go_simp); (try (go_ints; try go_simp)); first | (refine hK _ ?_; clear hK K) | (apply Exists.intro; refine ⟨fun _ => ?_, hK _ ?_⟩; ((go_at_call 154; exact (HT.out _))); clear hK K))); (refine walkP_step (fun K hK => ?_); go_simp; (try (go_ints; try go_simp)); first | (refine hK _ ?_; clear hK K) | (apply Exists.intro; refine ⟨fun _ => ?_, hK _ ?_⟩; ((go_at_call 154; exact (HT.out _))); clear hK K) | (simp only [↓IntWalk.iteOmega]; (try go_simp); (try (go_ints; try go_simp)); first | (refine hK _ ?_; clear hK K) | (apply Exists.intro; refine ⟨fun _ => ?_, hK _ ?_⟩; ((go_at_call 154; exact (HT.out _))); clear hK K))); (refine walkP_step (fun K hK => ?_); go_simp; (try (go_ints; try go_simp)); first | (refine hK _ ?_; clear hK K) | (apply Exists.intro; refine ⟨fun _ => ?_, hK _ ?_⟩; ((go_at_call 154; exact (HT.out _))); clear hK K) | (simp only [↓IntWalk.iteOmega]; (try go_simp); (try (go_ints; try go_simp)); first | (refine hK _ ?_; clear hK K) | (apply Exists.intro; refine ⟨fun _ => ?_, hK _ ?_⟩; ((go_at_call 154; exact (HT.out _))); clear hK K))); refine walkP_new (#[.int .i64 0, .int .i64 0, .int .i64 0, .int .i64 0, .int .i64 0, .int .i64 0], 26) rfl (fun W' => by go_simp) (fun v => ?_); refine walkP_fill rfl (fill_store (cs := #[.int .i64 (rw (pr6 n k) 0), .int .i64 (rw (pr6 n k) 1), .int .i64 (rw (pr6 n k) 2), .int .i64 (rw (pr6 n k) 3), .int .i64 (rw (pr6 n k) 4), .int .i64 (rw (pr6 n k) 5)]) rfl rfl rfl rfl (by kernel_rfl) (by simp [Value.oneCell'])) ?_; refine walkP_nil ?_; clear hgr; intro w1 hE hF; obtain ⟨_, bK, rfl, hb, hR⟩ := hF; have k0_0 : w1.cell? ⟨bK, 0, none⟩ = some (.int .i64 (rw (pr6 n k) 0)) := row_cell hR 0; have k0_1 : w1.cell? ⟨bK, 1, none⟩ = some (.int .i64 (rw (pr6 n k) 1)) := row_cell hR 1; have k0_2 : w1.cell? ⟨bK, 2, none⟩ = some (.int .i64 (rw (pr6 n k) 2)) := row_cell hR 2; have k0_3 : w1.cell? ⟨bK, 3, none⟩ = some (.int .i64 (rw (pr6 n k) 3)) := row_cell hR 3; have k0_4 : w1.cell? ⟨bK, 4, none⟩ = some (.int .i64 (rw (pr6 n k) 4)) := row_cell hR 4; have k0_5 : w1.cell? ⟨bK, 5, none⟩ = some (.int .i64 (rw (pr6 n k) 5)) := row_cell hR 5; have l0 : bK < w1.heap.size := row_lt hR; clear hR hb
          replace hE : Ext wo w1 := ((Ext.refl wo).drew).trans hE
          have hs1 := hE.size
          have HA1 := Lib.hid (HA.out.ext hE za)
          have HB1 := Lib.hid (HB.out.ext hE zb)
          obtain ⟨⟨a0, a1, a2, a3, a4, a5⟩, _⟩ := HA1.out.all
          obtain ⟨⟨b0, b1, b2, b3, b4, b5⟩, _⟩ := HB1.out.all
          have hx1 := hx.trans hE
          have HL1 := Lib.hid (lls_ext HLL.out hE)
          have q1 := (hE.cells _ _ hvo).trans p1
          have q2 := (hE.cells _ _ hvo).trans p2
          clear c0 c1 c2 c3 c4 c5 e0 e1 e2 e3 e4 e5 HA HB p1 p2 HT hE HLL
          obtain ⟨wp, rfl⟩ : ∃ x, x = w1 := ⟨_, rfl⟩
          have ya : w.heap.size < wp.heap.size := by omega
          have yb : w.heap.size + 1 < wp.heap.size := by omega
          have hbwp : b < wp.heap.size := by omega
          cases h2 : prt (pr6 n k) z
          · rw [h2, if_neg (by decide), List.append_nil] at HD
            have HP2 := Lib.hid (HP.out _ h2)
            clear h2 HP
            go_wp2_with (go_at_call 155; refine (HP2.out _).mono ?_; rintro e w1 ⟨rfl, hE⟩)
            have hxe : Ext wp w1 := (by (repeat' (first | (with_reducible exact Ext.refl _) | (with_reducible assumption) | (with_reducible refine Ext.alloc ?_ _) | (with_reducible refine Ext.drew ?_) | (with_reducible refine Ext.drewN ?_ _) | (with_reducible refine Ext.setCell ?_ ?_ _) | (with_reducible refine Ext.trans ?_ (by assumption)))) <;> (first | (with_reducible assumption) | omega | (simp; done) | (simp; omega)))
            have hse := hxe.size
            refine ⟨⟨j + 1, by omega, by go_num, hx1.trans hxe, HA1.out.ext hxe ya, HB1.out.ext hxe yb, by omega, by rw [HD.out]; exact lls_ext HL1.out hxe⟩, by simp [intOf]; first | exact hdec | omega⟩
          · rw [h2, if_pos rfl] at HD
            have HP2 := Lib.hid (HP.out _ h2)
            have HX := Lib.hid (fun w => l2Xor_n z (pr6 n k) w)
            rw [xor_mns hK hz h2] at HX
            have hcl2 := cnt_less0 hK (hf0 k) h2
            have HR := Lib.hid (fun v u w hr hu => IH.out (O.drop (j + 1)) (by rw [List.length_drop]; omega) (fun i k' h => HG.out (j + 1 + i) k' (by rw [List.getElem?_drop] at h; exact h)) (by rw [List.length_drop]; omega) (mns z (pr6 n k)) (mns_lt _ hz) (D ++ [k]) (by rw [List.length_append]; simp; omega) v u w hr hu)
            have hal := HAL.out (j + 1) (by omega)
            rw [HD.out, List.length_append, HTL.out] at hal
            have hcb : cT (pr6 n) O z ≤ 68719476736 := Nat.le_trans HCT.out (Nat.le_trans (Nat.pow_le_pow_right (by omega) hlen) (by decide))
            clear h2 HP HCT HTL HAL
            generalize tl (pr6 n) (O.drop (j + 1)) (mns z (pr6 n k)) (D ++ [k]) = TT at *
            generalize mns z (pr6 n k) = zz at *
            go_wp2_with ((go_at_call 155; refine (HP2.out _).mono ?_; rintro e w1 ⟨rfl, hE⟩); have HA2 := Lib.hid (HA1.out.ext hE ya); have HB2 := Lib.hid (HB1.out.ext hE yb); have HL2 := Lib.hid (lls_ext HL1.out hE); have r1 := (hE.cells _ _ hbwp).trans q1; have r2 := (hE.cells _ _ hbwp).trans q2; skip; replace k0_0 : w1.cell? ⟨bK, 0, none⟩ = some (.int .i64 (rw (pr6 n k) 0)) := (hE.cells _ _ (by first | exact l0 | (simp; done) | (simp; omega))).trans (by first | exact k0_0 | (go_simp; done)); replace k0_1 : w1.cell? ⟨bK, 1, none⟩ = some (.int .i64 (rw (pr6 n k) 1)) := (hE.cells _ _ (by first | exact l0 | (simp; done) | (simp; omega))).trans (by first | exact k0_1 | (go_simp; done)); replace k0_2 : w1.cell? ⟨bK, 2, none⟩ = some (.int .i64 (rw (pr6 n k) 2)) := (hE.cells _ _ (by first | exact l0 | (simp; done) | (simp; omega))).trans (by first | exact k0_2 | (go_simp; done)); replace k0_3 : w1.cell? ⟨bK, 3, none⟩ = some (.int .i64 (rw (pr6 n k) 3)) := (hE.cells _ _ (by first | exact l0 | (simp; done) | (simp; omega))).trans (by first | exact k0_3 | (go_simp; done)); replace k0_4 : w1.cell? ⟨bK, 4, none⟩ = some (.int .i64 (rw (pr6 n k) 4)) := (hE.cells _ _ (by first | exact l0 | (simp; done) | (simp; omega))).trans (by first | exact k0_4 | (go_simp; done)); replace k0_5 : w1.cell? ⟨bK, 5, none⟩ = some (.int .i64 (rw (pr6 n k) 5)) := (hE.cells _ _ (by first | exact l0 | (simp; done) | (simp; omega))).trans (by first | exact k0_5 | (go_simp; done)); replace l0 : bK < w1.heap.size := Nat.lt_of_lt_of_le (by first | exact l0 | (simp; done) | (simp; omega)) hE.size; obtain ⟨wq, rfl⟩ : ∃ x, x = w1 := ⟨_, rfl⟩)
            have hxq : Ext w wq := hx1.trans hE
            have hsq := hE.size
            have hbwq : b < wq.heap.size := by omega
            have xa : w.heap.size < wq.heap.size := by omega
            have xb : w.heap.size + 1 < wq.heap.size := by omega
            obtain ⟨⟨c0, c1, c2, c3, c4, c5⟩, _⟩ := HA2.out.all
            obtain ⟨⟨e0, e1, e2, e3, e4, e5⟩, _⟩ := HB2.out.all
            clear a0 a1 a2 a3 a4 a5 b0 b1 b2 b3 b4 b5 q1 q2 hE
            have HRO := Lib.hid (rawl_drop (i := j + 1) (by omega) hcap hbw HC.out)
            have HC1 := Lib.hid (inn_cells (inn_stable _ _ _ _ hxq HIN.out)).2
            have HC2 := Lib.hid (pxy_length D)
            have HC3 := Lib.hid (pxy_ones D)
            go_wp2
            refine wp_made [(0, true), (1, true), (2, true), (3, true), (4, true), (5, true), (6, true), (7, true), (8, true), (10, true), (12, true), (13, true), (14, true), (15, true)] [(9, []), (11, [9]), (16, [])] [(17, false), (18, false)] [19, 20] (fun i => if i = 9 then Emp wq.heap.size 33 2 else if i = 11 then Rowf wq.heap.size 33 2 D.length (pxy D) else Cel [.int .i64 (kx : Int), .int .i64 (ky : Int)]) (by kernel_rfl) (by kernel_rfl) ?_ ?_
            · intro i x
              split
              · exact emp_stable _ _ _ _
              · split
                · exact rowf_stable _ _ _ _ _ _
                · exact cel_stable _ _
            simp only [pickO, pickT, List.getElem?_cons_succ, List.getElem?_cons_zero]
            intro hgr
            (refine walkP_step (fun K hK => ?_); go_simp; (try (go_ints; try go_simp)); first | (refine hK _ ?_; clear hK K) | (apply Exists.intro; refine ⟨fun _ => ?_, hK _ ?_⟩; ((go_at_call 156; exact (HX.out _))); clear hK K) | (simp only [↓IntWalk.iteOmega]; (try go_simp); (try (go_ints; try go_simp)); first | (refine hK _ ?_; clear hK K) | (apply Exists.intro; refine ⟨fun _ => ?_, hK _ ?_⟩; ((go_at_call 156; exact (HX.out _))); clear hK K))); (refine walkP_step (fun K hK => ?_); go_simp; (try (go_ints; try go_simp)); first | (refine hK _ ?_; clear hK K) | (apply Exists.intro; refine ⟨fun _ => ?_, hK _ ?_⟩; ((go_at_call 156; exact (HX.out _))); clear hK K) | (simp only [↓IntWalk.iteOmega]; (try go_simp); (try (go_ints; try go_simp)); first | (refine hK _ ?_; clear hK K) | (apply Exists.intro; refine ⟨fun _ => ?_, hK _ ?_⟩; ((go_at_call 156; exact (HX.out _))); clear hK K))); (refine walkP_step (fun K hK => ?_); go_simp; (try (go_ints; try go_simp)); first | (refine hK _ ?_; clear hK K) | (apply Exists.intro; refine ⟨fun _ => ?_, hK _ ?_⟩; ((go_at_call 156; exact (HX.out _))); clear hK K) | (simp only [↓IntWalk.iteOmega]; (try go_simp); (try (go_ints; try go_simp)); first | (refine hK _ ?_; clear hK K) | (apply Exists.intro; refine ⟨fun _ => ?_, hK _ ?_⟩; ((go_at_call 156; exact (HX.out _))); clear hK K))); (refine walkP_step (fun K hK => ?_); go_simp; (try (go_ints; try go_simp)); first | (refine hK _ ?_; clear hK K) | (apply Exists.intro; refine ⟨fun _ => ?_, hK _ ?_⟩; ((go_at_call 156; exact (HX.out _))); clear hK K) | (simp only [↓IntWalk.iteOmega]; (try go_simp); (try (go_ints; try go_simp)); first | (refine hK _ ?_; clear hK K) | (apply Exists.intro; refine ⟨fun _ => ?_, hK _ ?_⟩; ((go_at_call 156; exact (HX.out _))); clear hK K))); (refine walkP_step (fun K hK => ?_); go_simp; (try (go_ints; try go_simp)); first | (refine hK _ ?_; clear hK K) | (apply Exists.intro; refine ⟨fun _ => ?_, hK _ ?_⟩; ((go_at_call 156; exact (HX.out _))); clear hK K) | (simp only [↓IntWalk.iteOmega]; (try go_simp); (try (go_ints; try go_simp)); first | (refine hK _ ?_; clear hK K) | (apply Exists.intro; refine ⟨fun _ => ?_, hK _ ?_⟩; ((go_at_call 156; exact (HX.out _))); clear hK K))); (refine walkP_step (fun K hK => ?_); go_simp; (try (go_ints; try go_simp)); first | (refine hK _ ?_; clear hK K) | (apply Exists.intro; refine ⟨fun _ => ?_, hK _ ?_⟩; ((go_at_call 156; exact (HX.out _))); clear hK K) | (simp only [↓IntWalk.iteOmega]; (try go_simp); (try (go_ints; try go_simp)); first | (refine hK _ ?_; clear hK K) | (apply Exists.intro; refine ⟨fun _ => ?_, hK _ ?_⟩; ((go_at_call 156; exact (HX.out _))); clear hK K))); (refine walkP_step (fun K hK => ?_); go_simp; (try (go_ints; try go_simp)); first | (refine hK _ ?_; clear hK K) | (apply Exists.intro; refine ⟨fun _ => ?_, hK _ ?_⟩; ((go_at_call 156; exact (HX.out _))); clear hK K) | (simp only [↓IntWalk.iteOmega]; (try go_simp); (try (go_ints; try go_simp)); first | (refine hK _ ?_; clear hK K) | (apply Exists.intro; refine ⟨fun _ => ?_, hK _ ?_⟩; ((go_at_call 156; exact (HX.out _))); clear hK K))); (refine walkP_step (fun K hK => ?_); go_simp; (try (go_ints; try go_simp)); first | (refine hK _ ?_; clear hK K) | (apply Exists.intro; refine ⟨fun _ => ?_, hK _ ?_⟩; ((go_at_call 156; exact (HX.out _))); clear hK K) | (simp only [↓IntWalk.iteOmega]; (try go_simp); (try (go_ints; try go_simp)); first | (refine hK _ ?_; clear hK K) | (apply Exists.intro; refine ⟨fun _ => ?_, hK _ ?_⟩; ((go_at_call 156; exact (HX.out _))); clear hK K))); (refine walkP_step (fun K hK => ?_); go_simp; (try (go_ints; try go_simp)); first | (refine hK _ ?_; clear hK K) | (apply Exists.intro; refine ⟨fun _ => ?_, hK _ ?_⟩; ((go_at_call 156; exact (HX.out _))); clear hK K) | (simp only [↓IntWalk.iteOmega]; (try go_simp); (try (go_ints; try go_simp)); first | (refine hK _ ?_; clear hK K) | (apply Exists.intro; refine ⟨fun _ => ?_, hK _ ?_⟩; ((go_at_call 156; exact (HX.out _))); clear hK K))); (refine walkP_step (fun K hK => ?_); go_simp; (try (go_ints; try go_simp)); first | (refine hK _ ?_; clear hK K) | (apply Exists.intro; refine ⟨fun _ => ?_, hK _ ?_⟩; ((go_at_call 156; exact (HX.out _))); clear hK K) | (simp only [↓IntWalk.iteOmega]; (try go_simp); (try (go_ints; try go_simp)); first | (refine hK _ ?_; clear hK K) | (apply Exists.intro; refine ⟨fun _ => ?_, hK _ ?_⟩; ((go_at_call 156; exact (HX.out _))); clear hK K))); (refine walkP_step (fun K hK => ?_); go_simp; (try (go_ints; try go_simp)); first | (refine hK _ ?_; clear hK K) | (apply Exists.intro; refine ⟨fun _ => ?_, hK _ ?_⟩; ((go_at_call 156; exact (HX.out _))); clear hK K) | (simp only [↓IntWalk.iteOmega]; (try go_simp); (try (go_ints; try go_simp)); first | (refine hK _ ?_; clear hK K) | (apply Exists.intro; refine ⟨fun _ => ?_, hK _ ?_⟩; ((go_at_call 156; exact (HX.out _))); clear hK K))); (refine walkP_step (fun K hK => ?_); go_simp; (try (go_ints; try go_simp)); first | (refine hK _ ?_; clear hK K) | (apply Exists.intro; refine ⟨fun _ => ?_, hK _ ?_⟩; ((go_at_call 156; exact (HX.out _))); clear hK K) | (simp only [↓IntWalk.iteOmega]; (try go_simp); (try (go_ints; try go_simp)); first | (refine hK _ ?_; clear hK K) | (apply Exists.intro; refine ⟨fun _ => ?_, hK _ ?_⟩; ((go_at_call 156; exact (HX.out _))); clear hK K))); (refine walkP_step (fun K hK => ?_); go_simp; (try (go_ints; try go_simp)); first | (refine hK _ ?_; clear hK K) | (apply Exists.intro; refine ⟨fun _ => ?_, hK _ ?_⟩; ((go_at_call 156; exact (HX.out _))); clear hK K) | (simp only [↓IntWalk.iteOmega]; (try go_simp); (try (go_ints; try go_simp)); first | (refine hK _ ?_; clear hK K) | (apply Exists.intro; refine ⟨fun _ => ?_, hK _ ?_⟩; ((go_at_call 156; exact (HX.out _))); clear hK K))); (refine walkP_step (fun K hK => ?_); go_simp; (try (go_ints; try go_simp)); first | (refine hK _ ?_; clear hK K) | (apply Exists.intro; refine ⟨fun _ => ?_, hK _ ?_⟩; ((go_at_call 156; exact (HX.out _))); clear hK K) | (simp only [↓IntWalk.iteOmega]; (try go_simp); (try (go_ints; try go_simp)); first | (refine hK _ ?_; clear hK K) | (apply Exists.intro; refine ⟨fun _ => ?_, hK _ ?_⟩; ((go_at_call 156; exact (HX.out _))); clear hK K)))
            refine walkP_nil ⟨?_, List.forall_mem_cons.2 ⟨?_, List.forall_mem_cons.2 ⟨?_, List.forall_mem_cons.2 ⟨?_, fun _ h => nomatch h⟩⟩⟩, fun xs F hF => ?_⟩
            · simp [dstO]
            · intro ow how xs wc hxc hF hd R hR
              simp only [List.getElem?_cons_succ, List.getElem?_cons_zero, Option.some.injEq] at how
              subst how
              simp only [dstO, puts, List.map_nil]
              have hs := hxc.size
              simp at hs
              go_simp
              simp only [anyUpon]
              exact hR _ _ ((Ext.refl _).alloc _) (emp_new 33 2 hs)
            · intro ow how xs wc hxc hF hd R hR
              simp only [List.getElem?_cons_succ, List.getElem?_cons_zero, Option.some.injEq] at how
              subst how
              have hd9 := hd 9 (by simp)
              simp only [dstO, puts, List.map_cons, List.map_nil, List.getElem?_cons_succ, List.getElem?_cons_zero, Option.bind_some, Option.getD_some] at hd9 ⊢
              obtain ⟨eb, g1, g2, g3, g4⟩ := hd9
              refine any_append_new _ _ _ (by rfl) 33 i0 (.agg #[.int .i64 0, .int .i64 0]) 2 16 Try.underlying28 hi iz0 iz1 iz2 (by rfl) (by decide) eb (Eq.trans (by rfl) g1) g4 ⟨ub, uo, none⟩ D.length uc (by rfl) (pxy D) (fun jj uu h => ?_) HC2.out HC3.out (by unfold maxLen; omega) (by omega) wq.heap.size g2 (fun b' c' w' hx' ho' => hR _ _ hx' ⟨b', c', rfl, by have := hxc.size; have := hx'.size; simp at *; omega, ho'⟩)
              have hq := HC1.out jj uu h
              rw [Go.WideShapes.add_plain] at hq ⊢
              exact ((((Ext.refl wq).drew).trans hxc).cells ub _ (by omega)).trans hq
            · intro ow how xs wc hxc hF hd R hR
              simp only [List.getElem?_cons_succ, List.getElem?_cons_zero, Option.some.injEq] at how
              subst how
              simp only [dstO, puts, List.map_nil]
              go_simp
              simp only [anyUpon]
              exact hR _ _ ((Ext.refl _).alloc _) (cel_two _ _ _)
            · simp only [dstO, puts, List.map_cons, List.map_nil, List.getElem?_cons_succ, List.getElem?_cons_zero, Option.bind_some, Option.getD_some] at hF ⊢
              have hF11 : ∀ w', F w' → Rowf wq.heap.size 33 2 D.length (pxy D) (xs 48) w' := fun w' h => (hF w' h).2 (11, [9]) (by simp)
              have hF16 : ∀ w', F w' → Cel [.int .i64 (kx : Int), .int .i64 (ky : Int)] (xs 53) w' := fun w' h => (hF w' h).2 (16, []) (by simp)
              clear hF
              refine walkP_appendF rfl _ _ _ rfl wq.heap.size 33 i0 (.agg #[.int .i64 0, .int .i64 0]) 2 16 Try.underlying28 hi iz0 iz1 iz2 (by rfl) (by decide) (by simp) (xs 48) D.length (pxy D) (by rfl) (xs 53) 1 [.int .i64 (kx : Int), .int .i64 (ky : Int)] (by rfl) (by rfl) (by simp [Value.oneCell']) (by unfold maxLen; omega) (by omega) (fun wc hxc hFw => ?_) (fun v2 => ?_)
              · obtain ⟨b1, c1', f1, f2, f3⟩ := hF11 wc hFw
                obtain ⟨b2, f4, f5, f6⟩ := hF16 wc hFw
                exact ⟨f3, f2, _, _, f4, f6⟩
              refine walkP_callR (fun v => v) (fun v w' => LLs w' wq.heap.size v TT) (fun _ _ _ hx h => lls_ext h hx) rfl (fun wc hxc hFw R hR => ?_) (fun v3 => ?_)
              · obtain ⟨g1, g2⟩ := hFw
                obtain ⟨v2o, v2c, rfl, hsh2⟩ := own_shape g1
                obtain ⟨v2b, rfl, _, _⟩ := hsh2 (by omega)
                rw [← Q.out, ← pxy_append] at g1
                have hIn := inn_own (L := D ++ [k]) (by rw [List.length_append]; rfl) g1
                go_simp
                simp only [anyUpon]
                go_at_call 120
                refine (HR.out _ _ _ (rawl_ext HRO.out ((hxq.drew).trans hxc)) hIn).mono ?_
                rintro e w1 ⟨r, rfl, hE, hll⟩
                exact ⟨_, rfl, hR _ _ hE (lls_mono hll g2)⟩
              refine walkP_nil ?_
              clear hgr
              intro w1 hE hFw
              replace hE : Ext wq w1 := ((Ext.refl wq).drew).trans hE
              obtain ⟨_, us, ho3, hl3⟩ := hFw
              obtain ⟨vs, ho2, hl2⟩ := HL2.out
              have hs3 := hE.size
              have hox := own_ext ho2 hE
              have hlx := llv_ext hl2 hE
              have HOX := Lib.hid hox
              have hx6 := hxq.trans hE
              have hA6 := HA2.out.ext hE xa
              have hB6 := HB2.out.ext hE xb
              clear ho2 hl2
              rcases ho3.2 with ⟨hv3, hn3⟩ | ⟨g3, c3', cur3, hv3, hb3, hg3, _⟩
              · subst hv3
                have hTT : TT = [] := List.eq_nil_of_length_eq_zero hn3
                rw [hTT, List.append_nil] at HD
                have HDD := Lib.hid (show LLs w1 (w.heap.size + 2) (.slice oo (tA (pr6 n) O z D j).length oc) (tA (pr6 n) O z D (j + 1)) by rw [HD.out]; exact ⟨vs, hox, hlx⟩)
                have HA6 := Lib.hid hA6
                have HB6 := Lib.hid hB6
                clear hA6 hB6 hTT hox hlx hal
                go_wp2_with (at_builtin; refine wpList_append_own_none (by rfl) _ _ 119 (by rfl) (w.heap.size + 2) 28 s0 1 Try.underlying119 si _ _ _ (by rfl) HOX.out (by rfl) ?_)
                refine ⟨⟨j + 1, by omega, by go_num, hx6, HA6.out, HB6.out, by omega, HDD.out⟩, by simp [intOf]; first | exact hdec | omega⟩
              · subst hv3
                have HA6 := Lib.hid hA6
                have HB6 := Lib.hid hB6
                have HLX := Lib.hid hlx
                have HL3 := Lib.hid hl3
                have HN3 := Lib.hid (show ∀ (jj : Nat) (uu : Value), us[jj]? = some uu → w1.cell? ((⟨g3, 0, none⟩ : Addr).add jj) = some uu from fun jj uu h => by
                  rw [Go.WideShapes.add_plain, Nat.zero_add]
                  have hlt2 := (List.getElem?_eq_some_iff.1 h).1
                  rw [ho3.1] at hlt2
                  exact (ho3.cellAt jj hlt2).trans h)
                have HN4 := Lib.hid ho3.1
                have hl5 : (tA (pr6 n) O z D j).length + TT.length ≤ 68719476736 := by omega
                clear hA6 hB6 hox hlx hal hl3 ho3 hg3
                go_wp2_with (at_builtin; refine wpList_append_own _ (by rfl) _ _ 119 (by rfl) (w.heap.size + 2) 28 s0 (.slice none 0 0) 1 24 Try.underlying119 si sz0 sz1 sz2 (by rfl) (by decide) _ _ _ (by rfl) HOX.out ⟨g3, 0, none⟩ TT.length c3' us (by rfl) HN4.out HN3.out HL3.out.2.1 (by unfold maxLen; omega) (by omega) (by omega) ?_; intro v4 w4 hown4 hgrow4 _)
                have hs4 := hgrow4.size
                have hlt4 := HOX.out.lt
                have HX7 := Lib.hid (show Ext w w4 from .of (hx6.below.grown hgrow4 hx6.size (fun k hk => by have := (hlt4 k hk).1; omega)))
                have HA7 := Lib.hid (arr_grow HA6.out hgrow4 (by omega) (fun e => by have := (hlt4 _ e.symm).1; omega))
                have HB7 := Lib.hid (arr_grow HB6.out hgrow4 (by omega) (fun e => by have := (hlt4 _ e.symm).1; omega))
                have HL7 := Lib.hid (show LLs w4 (w.heap.size + 2) v4 (tA (pr6 n) O z D (j + 1)) by
                  rw [HD.out]
                  exact ⟨vs ++ us, by rw [List.length_append]; exact hown4, llv_append (llv_grown HLX.out HOX.out hgrow4) (llv_grown (llv_mono HL3.out (by omega)) HOX.out hgrow4)⟩)
                refine ⟨⟨j + 1, by omega, by go_num, HX7.out, HA7.out, HB7.out, by omega, HL7.out⟩, by simp [intOf]; first | exact hdec | omega⟩
        · obtain rfl : j = O.length := by omega
          go_wp2
          go_returns
          exact ⟨_, rfl, hx, by rw [← HAA.out]; exact lls_mono HLL.out (show w.heap.size ≤ w.heap.size + 2 by omega)⟩
end Go.Proofs.Ytlifhoajamnehaa
