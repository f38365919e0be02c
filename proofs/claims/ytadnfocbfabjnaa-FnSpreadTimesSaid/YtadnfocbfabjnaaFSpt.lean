/- FSpt: contracts of functions, and lemmas, for this seat. Conditions: as each states. -/
import Derived.Test.YtadnfocbfabjnaaFCl
import Derived.Test.YtadnfocbfabjnaaSprT
import Derived.Test.YtadnfocbfabjnaaSprU
set_option linter.unusedVariables false
set_option maxRecDepth 100000
set_option maxHeartbeats 4000000
namespace Go.Proofs.Ytadnfocbfabjnaa
open Go Go.RowKit Instr
theorem spt_bad {r s : Nat → Int} {t : Int} (h : (vs r && vs s) = false ∨ inR t 0 12 = false) : (vs r && vs s && inR t 0 12) = false := by
  rcases h with h | h
  · rw [h]; rfl
  · rw [h, Bool.and_false]
theorem stF1 (r s : Nat → Int) (t : Int) (hr : Shy r) (hs : Shy s) : ∃ (R Q : Nat → Int) (b : Bool),
    Cl 46 #[(.agg #[.int .i64 (r 0), .int .i64 (r 1), .int .i64 (r 2), .int .i64 (r 3), .int .i64 (r 4), .int .i64 (r 5)]), (.agg #[.int .i64 (s 0), .int .i64 (s 1), .int .i64 (s 2), .int .i64 (s 3), .int .i64 (s 4), .int .i64 (s 5)]), .int .i64 t] (.tuple #[(.agg #[.int .i64 (R 0), .int .i64 (R 1), .int .i64 (R 2), .int .i64 (R 3), .int .i64 (R 4), .int .i64 (R 5)]), .bool b]) ∧ Cl 47 #[(.agg #[.int .i64 (r 0), .int .i64 (r 1), .int .i64 (r 2), .int .i64 (r 3), .int .i64 (r 4), .int .i64 (r 5)]), (.agg #[.int .i64 (s 0), .int .i64 (s 1), .int .i64 (s 2), .int .i64 (s 3), .int .i64 (s 4), .int .i64 (s 5)]), .int .i64 t] (.tuple #[(.agg #[.int .i64 (R 0), .int .i64 (R 1), .int .i64 (R 2), .int .i64 (R 3), .int .i64 (R 4), .int .i64 (R 5)]), .bool b]) ∧
    (b = false ∨ (b = true ∧ (∃ n, n < 68719476736 ∧ r = rw n) ∧ (0 < t → Cl 46 #[(.agg #[.int .i64 (r 0), .int .i64 (r 1), .int .i64 (r 2), .int .i64 (r 3), .int .i64 (r 4), .int .i64 (r 5)]), (.agg #[.int .i64 (s 0), .int .i64 (s 1), .int .i64 (s 2), .int .i64 (s 3), .int .i64 (s 4), .int .i64 (s 5)]), .int .i64 (t - 1)] (.tuple #[(.agg #[.int .i64 (Q 0), .int .i64 (Q 1), .int .i64 (Q 2), .int .i64 (Q 3), .int .i64 (Q 4), .int .i64 (Q 5)]), .bool true]) ∧ Cl 54 #[(.agg #[.int .i64 (Q 0), .int .i64 (Q 1), .int .i64 (Q 2), .int .i64 (Q 3), .int .i64 (Q 4), .int .i64 (Q 5)]), (.agg #[.int .i64 (s 0), .int .i64 (s 1), .int .i64 (s 2), .int .i64 (s 3), .int .i64 (s 4), .int .i64 (s 5)])] (.tuple #[(.agg #[.int .i64 (R 0), .int .i64 (R 1), .int .i64 (R 2), .int .i64 (R 3), .int .i64 (R 4), .int .i64 (R 5)]), .bool true])))) := by
  cases h : (vs r && vs s)
  · exact ⟨fun _ => 0, fun _ => 0, false, fun w => SpreadTimes_bad _ _ _ (spt_bad (.inl h)) w, fun w => sSpreadTimes_bad _ _ _ (spt_bad (.inl h)) w, .inl rfl⟩
  · cases h3 : inR t 0 12
    · exact ⟨fun _ => 0, fun _ => 0, false, fun w => SpreadTimes_bad _ _ _ (spt_bad (.inr h3)) w, fun w => sSpreadTimes_bad _ _ _ (spt_bad (.inr h3)) w, .inl rfl⟩
    · rcases hs with h2 | ⟨m, hm, rfl⟩
      · rw [vs2_r h2] at h; cases h
      · rcases hr with h1 | ⟨n, hn, rfl⟩
        · rw [vs2_l h1] at h; cases h
        · obtain ⟨t0, t12⟩ := (inR_iff t 0 12).1 h3
          obtain ⟨k, rfl⟩ : ∃ k : Nat, t = k := ⟨t.toNat, by omega⟩
          refine ⟨rw (spn m k n), rw (spn m (k - 1) n), true, fun w => SpreadTimes_ok n m k hn hm (by omega) w, fun w => sSpreadTimes_ok n m k (by omega) w, .inr ⟨rfl, ⟨n, hn, rfl⟩, fun hk => ⟨fun w => ?_, fun w => ?_⟩⟩⟩
          · have := SpreadTimes_ok n m (k - 1) hn hm (by omega) w
            rw [show ((k - 1 : Nat) : Int) = (k : Int) - 1 by omega] at this
            exact this
          · have := SpreadSheet_ok (spn m (k - 1) n) m (spn_lt _ _ _ hn) hm w
            rw [show spr (spn m (k - 1) n) m = spn m k n by
              obtain ⟨j, rfl⟩ : ∃ j, k = j + 1 := ⟨k - 1, by omega⟩
              rfl] at this
            exact this
theorem stF2 (a b : Nat → Int) (ha : Shy a) (hb : Shy b) : ∃ (S : Nat → Int) (c : Bool),
    Cl 52 #[(.agg #[.int .i64 (a 0), .int .i64 (a 1), .int .i64 (a 2), .int .i64 (a 3), .int .i64 (a 4), .int .i64 (a 5)]), (.agg #[.int .i64 (b 0), .int .i64 (b 1), .int .i64 (b 2), .int .i64 (b 3), .int .i64 (b 4), .int .i64 (b 5)])] (.tuple #[(.agg #[.int .i64 (S 0), .int .i64 (S 1), .int .i64 (S 2), .int .i64 (S 3), .int .i64 (S 4), .int .i64 (S 5)]), .bool c]) ∧ Cl 53 #[(.agg #[.int .i64 (a 0), .int .i64 (a 1), .int .i64 (a 2), .int .i64 (a 3), .int .i64 (a 4), .int .i64 (a 5)]), (.agg #[.int .i64 (b 0), .int .i64 (b 1), .int .i64 (b 2), .int .i64 (b 3), .int .i64 (b 4), .int .i64 (b 5)])] (.tuple #[(.agg #[.int .i64 (S 0), .int .i64 (S 1), .int .i64 (S 2), .int .i64 (S 3), .int .i64 (S 4), .int .i64 (S 5)]), .bool c]) ∧
    (c = false ∨ (c = true ∧ Cl 52 #[(.agg #[.int .i64 (b 0), .int .i64 (b 1), .int .i64 (b 2), .int .i64 (b 3), .int .i64 (b 4), .int .i64 (b 5)]), (.agg #[.int .i64 (a 0), .int .i64 (a 1), .int .i64 (a 2), .int .i64 (a 3), .int .i64 (a 4), .int .i64 (a 5)])] (.tuple #[(.agg #[.int .i64 (S 0), .int .i64 (S 1), .int .i64 (S 2), .int .i64 (S 3), .int .i64 (S 4), .int .i64 (S 5)]), .bool true]) ∧
      ∀ r : Nat → Int, (∃ n, n < 68719476736 ∧ r = rw n) → ∃ X Y : Nat → Int, Cl 54 #[(.agg #[.int .i64 (r 0), .int .i64 (r 1), .int .i64 (r 2), .int .i64 (r 3), .int .i64 (r 4), .int .i64 (r 5)]), (.agg #[.int .i64 (S 0), .int .i64 (S 1), .int .i64 (S 2), .int .i64 (S 3), .int .i64 (S 4), .int .i64 (S 5)])] (.tuple #[(.agg #[.int .i64 (Y 0), .int .i64 (Y 1), .int .i64 (Y 2), .int .i64 (Y 3), .int .i64 (Y 4), .int .i64 (Y 5)]), .bool true]) ∧ Cl 54 #[(.agg #[.int .i64 (r 0), .int .i64 (r 1), .int .i64 (r 2), .int .i64 (r 3), .int .i64 (r 4), .int .i64 (r 5)]), (.agg #[.int .i64 (a 0), .int .i64 (a 1), .int .i64 (a 2), .int .i64 (a 3), .int .i64 (a 4), .int .i64 (a 5)])] (.tuple #[(.agg #[.int .i64 (X 0), .int .i64 (X 1), .int .i64 (X 2), .int .i64 (X 3), .int .i64 (X 4), .int .i64 (X 5)]), .bool true]) ∧ Cl 54 #[(.agg #[.int .i64 (X 0), .int .i64 (X 1), .int .i64 (X 2), .int .i64 (X 3), .int .i64 (X 4), .int .i64 (X 5)]), (.agg #[.int .i64 (b 0), .int .i64 (b 1), .int .i64 (b 2), .int .i64 (b 3), .int .i64 (b 4), .int .i64 (b 5)])] (.tuple #[(.agg #[.int .i64 (Y 0), .int .i64 (Y 1), .int .i64 (Y 2), .int .i64 (Y 3), .int .i64 (Y 4), .int .i64 (Y 5)]), .bool true]))) := by
  cases h : (vs a && vs b)
  · exact ⟨fun _ => 0, false, fun w => SumStamp_bad _ _ h w, fun w => sSumStamp_bad _ _ h w, .inl rfl⟩
  · rcases hb with h2 | ⟨m, hm, rfl⟩
    · rw [vs2_r h2] at h; cases h
    · rcases ha with h1 | ⟨q, hq, rfl⟩
      · rw [vs2_l h1] at h; cases h
      · refine ⟨rw (spr q m), true, fun w => SumStamp_ok q m hq hm w, fun w => sSumStamp_ok q m w, .inr ⟨rfl, fun w => ?_, ?_⟩⟩
        · have := SumStamp_ok m q hm hq w
          rw [spr_comm m q] at this
          exact this
        · rintro r ⟨n, hn, rfl⟩
          refine ⟨rw (spr n q), rw (spr n (spr q m)), fun w => SpreadSheet_ok n _ hn (spr_lt36 _ _) w, fun w => SpreadSheet_ok n q hn hq w, fun w => ?_⟩
          have := SpreadSheet_ok (spr n q) m (spr_lt36 _ _) hm w
          rw [← spr_sum n q m] at this
          exact this
theorem cnt_full36 : cnt 68719476735 = 36 := by decide +kernel
theorem cnt_36 {n : Nat} (hn : n < 68719476736) (h : cnt n = 36) : n = 68719476735 := by
  have h1 := (fits_iff n 68719476735 (by omega))
  have h2 : n &&& 68719476735 = n := ext36 (and36 _ hn) hn fun k hk => by
    rw [Nat.testBit_and, show (68719476735 : Nat) = 2 ^ 36 - 1 from rfl, Nat.testBit_two_pow_sub_one, decide_eq_true hk, Bool.and_true]
  rw [h2, cnt_full36] at h1
  have h3 := h1.1 h
  rw [cmp_full n hn] at h3
  refine ext36 hn (by omega) fun k hk => ?_
  have h4 := testBit_cmp n k hk
  rw [h3, Nat.zero_testBit] at h4
  rw [show (68719476735 : Nat) = 2 ^ 36 - 1 from rfl, Nat.testBit_two_pow_sub_one, decide_eq_true hk]
  cases h5 : n.testBit k
  · rw [h5] at h4; cases h4
  · rfl
theorem first_of (p : Nat → Prop) [DecidablePred p] : ∀ N, (∃ T, T ≤ N ∧ p T ∧ ∀ j, j < T → ¬ p j) ∨ ∀ j, j ≤ N → ¬ p j
  | 0 => by
    by_cases h : p 0
    · exact .inl ⟨0, Nat.le_refl _, h, fun j hj => absurd hj (Nat.not_lt_zero _)⟩
    · exact .inr fun j hj => by obtain rfl : j = 0 := by omega
                                exact h
  | N + 1 => by
    rcases first_of p N with ⟨T, h1, h2, h3⟩ | h
    · exact .inl ⟨T, by omega, h2, h3⟩
    · by_cases h1 : p (N + 1)
      · exact .inl ⟨N + 1, Nat.le_refl _, h1, fun j hj => h j (by omega)⟩
      · exact .inr fun j hj => by
          rcases Nat.lt_or_ge j (N + 1) with h2 | h2
          · exact h j (by omega)
          · obtain rfl : j = N + 1 := by omega
            exact h1
theorem stF3 (u v : Nat → Int) (hu : Shy u) (hv : Shy v) : ∃ (T K : Nat) (f : Bool) (Z Y : Nat → Int),
    Cl 49 #[(.agg #[.int .i64 (u 0), .int .i64 (u 1), .int .i64 (u 2), .int .i64 (u 3), .int .i64 (u 4), .int .i64 (u 5)]), (.agg #[.int .i64 (v 0), .int .i64 (v 1), .int .i64 (v 2), .int .i64 (v 3), .int .i64 (v 4), .int .i64 (v 5)])] (.tuple #[.int .i64 (T : Nat), .bool f]) ∧ Cl 50 #[(.agg #[.int .i64 (u 0), .int .i64 (u 1), .int .i64 (u 2), .int .i64 (u 3), .int .i64 (u 4), .int .i64 (u 5)]), (.agg #[.int .i64 (v 0), .int .i64 (v 1), .int .i64 (v 2), .int .i64 (v 3), .int .i64 (v 4), .int .i64 (v 5)])] (.tuple #[.int .i64 (T : Nat), .bool f]) ∧ (T ≤ 12 ∧ ((K : Int) == 36) = false) ∧
    (f = false ∨ (f = true ∧ Cl 46 #[(.agg #[.int .i64 (u 0), .int .i64 (u 1), .int .i64 (u 2), .int .i64 (u 3), .int .i64 (u 4), .int .i64 (u 5)]), (.agg #[.int .i64 (v 0), .int .i64 (v 1), .int .i64 (v 2), .int .i64 (v 3), .int .i64 (v 4), .int .i64 (v 5)]), .int .i64 (T : Nat)] (.tuple #[(.agg #[.int .i64 (Z 0), .int .i64 (Z 1), .int .i64 (Z 2), .int .i64 (Z 3), .int .i64 (Z 4), .int .i64 (Z 5)]), .bool true]) ∧ Cl 55 #[(.agg #[.int .i64 (Z 0), .int .i64 (Z 1), .int .i64 (Z 2), .int .i64 (Z 3), .int .i64 (Z 4), .int .i64 (Z 5)])] (.tuple #[.int .i64 36, .bool true]) ∧
      (0 < (T : Int) → Cl 46 #[(.agg #[.int .i64 (u 0), .int .i64 (u 1), .int .i64 (u 2), .int .i64 (u 3), .int .i64 (u 4), .int .i64 (u 5)]), (.agg #[.int .i64 (v 0), .int .i64 (v 1), .int .i64 (v 2), .int .i64 (v 3), .int .i64 (v 4), .int .i64 (v 5)]), .int .i64 ((T : Int) - 1)] (.tuple #[(.agg #[.int .i64 (Y 0), .int .i64 (Y 1), .int .i64 (Y 2), .int .i64 (Y 3), .int .i64 (Y 4), .int .i64 (Y 5)]), .bool true]) ∧ Cl 55 #[(.agg #[.int .i64 (Y 0), .int .i64 (Y 1), .int .i64 (Y 2), .int .i64 (Y 3), .int .i64 (Y 4), .int .i64 (Y 5)])] (.tuple #[.int .i64 (K : Nat), .bool true])))) := by
  cases h : (vs u && vs v)
  · exact ⟨0, 0, false, fun _ => 0, fun _ => 0, fun w => TimesToFill_bad _ _ h w, fun w => sTimesToFill_bad _ _ h w, ⟨by omega, by decide⟩, .inl rfl⟩
  · rcases hv with h2 | ⟨m, hm, rfl⟩
    · rw [vs2_r h2] at h; cases h
    · rcases hu with h1 | ⟨n, hn, rfl⟩
      · rw [vs2_l h1] at h; cases h
      · rcases first_of (fun j => spn m j n = 68719476735) 12 with ⟨T, hT, h1, h2⟩ | hno
        · have hs := fun w => sTimesToFill_n n m T true hn (by omega) (decide_eq_true hT).symm (fun _ => h1) h2 w
          simp only [if_true] at hs
          by_cases h0 : T = 0
          · subst h0
            refine ⟨0, 0, true, rw (spn m 0 n), fun _ => 0, fun w => TimesToFill_hit n m 0 hn hm hT h1 h2 w, hs, ⟨hT, by decide⟩, .inr ⟨rfl, fun w => SpreadTimes_ok n m 0 hn hm hT w, fun w => ?_, fun h => absurd h (by omega)⟩⟩
            have := SizeOf_ok (spn m 0 n) (spn_lt _ _ _ hn) w
            rw [show cnt (spn m 0 n) = 36 by rw [h1]; exact cnt_full36] at this
            exact this
          · have hne := h2 (T - 1) (by omega)
            have hc : cnt (spn m (T - 1) n) ≠ 36 := fun e => hne (cnt_36 (spn_lt _ _ _ hn) e)
            refine ⟨T, cnt (spn m (T - 1) n), true, rw (spn m T n), rw (spn m (T - 1) n), fun w => TimesToFill_hit n m T hn hm hT h1 h2 w, hs, ⟨hT, by simp; omega⟩, .inr ⟨rfl, fun w => SpreadTimes_ok n m T hn hm hT w, fun w => ?_, fun _ => ⟨fun w => ?_, fun w => SizeOf_ok _ (spn_lt _ _ _ hn) w⟩⟩⟩
            · have := SizeOf_ok (spn m T n) (spn_lt _ _ _ hn) w
              rw [show cnt (spn m T n) = 36 by rw [h1]; exact cnt_full36] at this
              exact this
            · have := SpreadTimes_ok n m (T - 1) hn hm (by omega) w
              rw [show ((T - 1 : Nat) : Int) = (T : Int) - 1 by omega] at this
              exact this
        · have hs := fun w => sTimesToFill_n n m 13 false hn (by omega) (by decide) (fun h => absurd h (by omega)) (fun j hj => hno j (by omega)) w
          simp only [if_false, Bool.false_eq_true] at hs
          exact ⟨0, 0, false, fun _ => 0, fun _ => 0, fun w => TimesToFill_none n m hn hm hno w, hs, ⟨by omega, by decide⟩, .inl rfl⟩
end Go.Proofs.Ytadnfocbfabjnaa
