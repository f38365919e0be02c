/- FPer Kp Kp3 Kp2: contracts of functions, and lemmas, for this seat. Conditions: as each states. -/
import Derived.Test.YtlifhoajamnehaaPr14
import Derived.Test.YtlifhoajamnehaaPr12
import Derived.Test.YtlifhoajamnehaaPr13
import Derived.Test.YtlifhoajamnehaaPr15
import Derived.Test.YtlifhoajamnehaaPr16
import Derived.Test.YtlifhoajamnehaaPr17
import Derived.Test.YtlifhoajamnehaaPr20
import Derived.Test.YtlifhoajamnehaaPr05
import Derived.Test.YtlifhoajamnehaaPr08
import Derived.Test.YtlifhoajamnehaaPr09
import Derived.Test.YtlifhoajamnehaaPr01
import Derived.Test.YtlifhoajamnehaaPr04
import Derived.Test.YtlifhoajamnehaaPr11
set_option linter.unusedVariables false
set_option linter.unusedSimpArgs false
set_option maxRecDepth 100000
set_option maxHeartbeats 4000000
namespace Go.Proofs.Ytlifhoajamnehaa
open Go Go.RowKit Instr
theorem toP_tsh (a b k : Nat) : toP a b k = decide (tsh a k = b) := rfl
theorem mem_pers (n k : Nat) : k ∈ fl (toP n n) 36 ↔ k < 36 ∧ tsh n k = n := by
  rw [mem_fl, toP_tsh, decide_eq_true_eq]
theorem prF1 (s : Nat → Int) (hs : Shy s) : ∃ (L : List Nat) (many : Int) (tx ty : Nat) (ok : Bool),
    (ClS 10 #[(.agg #[.int .i64 (s 0), .int .i64 (s 1), .int .i64 (s 2), .int .i64 (s 3), .int .i64 (s 4), .int .i64 (s 5)])] 33 2 L.length (pl L) ok ∧ ClS 11 #[(.agg #[.int .i64 (s 0), .int .i64 (s 1), .int .i64 (s 2), .int .i64 (s 3), .int .i64 (s 4), .int .i64 (s 5)])] 33 2 L.length (pl L) ok) ∧
    (Cl 12 #[(.agg #[.int .i64 (s 0), .int .i64 (s 1), .int .i64 (s 2), .int .i64 (s 3), .int .i64 (s 4), .int .i64 (s 5)])] (.tuple #[.int .i64 many, .bool ok]) ∧ Cl 13 #[(.agg #[.int .i64 (s 0), .int .i64 (s 1), .int .i64 (s 2), .int .i64 (s 3), .int .i64 (s 4), .int .i64 (s 5)])] (.tuple #[.int .i64 many, .bool ok])) ∧
    (Cl 14 #[(.agg #[.int .i64 (s 0), .int .i64 (s 1), .int .i64 (s 2), .int .i64 (s 3), .int .i64 (s 4), .int .i64 (s 5)])] (.tuple #[(.agg #[.int .i64 ((tx : Int)), .int .i64 ((ty : Int))]), .bool ok]) ∧ Cl 15 #[(.agg #[.int .i64 (s 0), .int .i64 (s 1), .int .i64 (s 2), .int .i64 (s 3), .int .i64 (s 4), .int .i64 (s 5)])] (.tuple #[(.agg #[.int .i64 ((tx : Int)), .int .i64 ((ty : Int))]), .bool ok])) ∧ L.length ≤ 36 ∧
    (ok = false ∨ (ok = true ∧ Cl 21 #[(.agg #[.int .i64 (s 0), .int .i64 (s 1), .int .i64 (s 2), .int .i64 (s 3), .int .i64 (s 4), .int .i64 (s 5)]), .int .i64 (tx : Int), .int .i64 (ty : Int)] (.tuple #[.bool true, .bool true]) ∧ many * (L.length : Int) = 36 ∧ 0 ≤ many ∧ many ≤ 36 ∧
      (∀ i k : Nat, L[i]? = some k → k < 36) ∧ decide (6 * 0 + 0 ∈ L) = true ∧ ∀ a b : Nat, a ∈ L → b ∈ L → decide (6 * ((a / 6 + b / 6) % 6) + (a % 6 + b % 6) % 6 ∈ L) = true)) := by
  rcases hs with h | ⟨n, hn, rfl⟩
  · exact ⟨[], 0, 0, 0, false, ⟨fun w => PeriodsOf_bad s h w, fun w => sPeriodsOf_bad s h w⟩, ⟨fun w => CountShifts_bad s h w, fun w => sCountShifts_bad s h w⟩, ⟨fun w => LeastTile_bad s h w, fun w => sLeastTile_bad s h w⟩, by simp, .inl rfl⟩
  · obtain ⟨a1, a2, a3, _⟩ := lt6_spec (pw n) (pw_6 hn)
    obtain ⟨b1, b2, b3, _⟩ := lt6_spec (ph n) (ph_6 hn)
    have hp := pers_bd hn
    have hd : 36 / pers n * pers n = 36 := grp_div (per_grp hn)
    have hi : ((36 : Int) / ((pers n : Nat) : Int)) = ((36 / pers n : Nat) : Int) := (Int.natCast_ediv 36 (pers n)).symm
    refine ⟨fl (toP n n) 36, ((36 : Int) / ((pers n : Nat) : Int)), lt6 (pw n), lt6 (ph n), true, ⟨fun w => PeriodsOf_ok n hn w, fun w => sPeriodsOf_ok n hn w⟩, ⟨fun w => CountShifts_ok n hn w, fun w => sCountShifts_ok n hn w⟩, ⟨fun w => LeastTile_ok n hn w, fun w => sLeastTile_ok n hn w⟩, fl_le _ _, .inr ⟨rfl, fun w => ?_, ?_, ?_, ?_, fun i k h => fl_lt h, ?_, fun a b ha hb => ?_⟩⟩
    · unfold pw at a1
      unfold ph at b1
      rw [Bool.and_eq_true] at a1 b1
      have ht : tl n (lt6 (pw n) : Nat) (lt6 (ph n) : Nat) = true := by
        unfold tl
        rw [Bool.and_eq_true]
        exact ⟨a1.2, b1.2⟩
      have := IsTileOf_ok n hn (lt6 (pw n) : Nat) (lt6 (ph n) : Nat) a1.1 b1.1 w
      rw [ht] at this
      exact this
    · rw [hi]
      show ((36 / pers n : Nat) : Int) * ((pers n : Nat) : Int) = 36
      rw [← Int.natCast_mul, hd]
      rfl
    · rw [hi]; exact Int.natCast_nonneg _
    · rw [hi]
      exact Int.ofNat_le.2 (Nat.div_le_self 36 (pers n))
    · exact decide_eq_true ((mem_pers n _).2 ⟨by decide, tsh_zero hn⟩)
    · obtain ⟨ha1, ha2⟩ := (mem_pers n a).1 ha
      obtain ⟨hb1, hb2⟩ := (mem_pers n b).1 hb
      refine decide_eq_true ((mem_pers n _).2 ⟨padd_lt a b, ?_⟩)
      exact of_decide_eq_true ((per_grp hn).add a b ha1 hb1 (decide_eq_true ha2) (decide_eq_true hb2))
theorem prF2 (a b : Nat → Int) (ha : Shy a) (hb : Shy b) : ∃ (T : List Nat) (one : Bool),
    ClS 18 #[(.agg #[.int .i64 (a 0), .int .i64 (a 1), .int .i64 (a 2), .int .i64 (a 3), .int .i64 (a 4), .int .i64 (a 5)]), (.agg #[.int .i64 (b 0), .int .i64 (b 1), .int .i64 (b 2), .int .i64 (b 3), .int .i64 (b 4), .int .i64 (b 5)])] 33 2 T.length (pl T) one ∧ ClS 19 #[(.agg #[.int .i64 (a 0), .int .i64 (a 1), .int .i64 (a 2), .int .i64 (a 3), .int .i64 (a 4), .int .i64 (a 5)]), (.agg #[.int .i64 (b 0), .int .i64 (b 1), .int .i64 (b 2), .int .i64 (b 3), .int .i64 (b 4), .int .i64 (b 5)])] 33 2 T.length (pl T) one ∧ T.length ≤ 36 ∧
    (one = false ∨ (one = true ∧ ∃ (X Y : Nat → Int) (O : List Nat), Cl 27 #[(.agg #[.int .i64 (a 0), .int .i64 (a 1), .int .i64 (a 2), .int .i64 (a 3), .int .i64 (a 4), .int .i64 (a 5)])] (.tuple #[(.agg #[.int .i64 (X 0), .int .i64 (X 1), .int .i64 (X 2), .int .i64 (X 3), .int .i64 (X 4), .int .i64 (X 5)]), .bool true]) ∧ Cl 27 #[(.agg #[.int .i64 (b 0), .int .i64 (b 1), .int .i64 (b 2), .int .i64 (b 3), .int .i64 (b 4), .int .i64 (b 5)])] (.tuple #[(.agg #[.int .i64 (Y 0), .int .i64 (Y 1), .int .i64 (Y 2), .int .i64 (Y 3), .int .i64 (Y 4), .int .i64 (Y 5)]), .bool true]) ∧
      ClS 10 #[(.agg #[.int .i64 (a 0), .int .i64 (a 1), .int .i64 (a 2), .int .i64 (a 3), .int .i64 (a 4), .int .i64 (a 5)])] 33 2 O.length (pl O) true ∧ O.length ≤ 36 ∧ decide (0 < (T.length : Int)) = eqS X Y ∧ (0 < T.length → T.length = O.length) ∧
      ∀ i k : Nat, T[i]? = some k → k < 36 ∧ Cl 28 #[(.agg #[.int .i64 (a 0), .int .i64 (a 1), .int .i64 (a 2), .int .i64 (a 3), .int .i64 (a 4), .int .i64 (a 5)]), .int .i64 ((k : Int) / 6), .int .i64 ((k : Int) % 6)] (.tuple #[(.agg #[.int .i64 (b 0), .int .i64 (b 1), .int .i64 (b 2), .int .i64 (b 3), .int .i64 (b 4), .int .i64 (b 5)]), .bool true]))) := by
  cases h : (vs a && vs b)
  · exact ⟨[], false, fun w => ShiftsTo_bad _ _ h w, fun w => sShiftsTo_bad _ _ h w, by simp, .inl rfl⟩
  · rcases hb with h2 | ⟨m, hm, rfl⟩
    · rw [vs2_r h2] at h; cases h
    · rcases ha with h1 | ⟨n, hn, rfl⟩
      · rw [vs2_l h1] at h; cases h
      · refine ⟨fl (toP n m) 36, true, fun w => ShiftsTo_ok n m hn hm w, fun w => sShiftsTo_ok n m hn hm w, fl_le _ _, .inr ⟨rfl, rw (fpN n), rw (fpN m), fl (toP n n) 36, fun w => FirstPlace_ok n hn w, fun w => FirstPlace_ok m hm w, fun w => PeriodsOf_ok n hn w, fl_le _ _, ?_, fun h0 => ?_, fun i k hik => ?_⟩⟩
        · rw [eqS_rw fpN_lt fpN_lt, decide_eq_decide, fpN_iff hn hm]
          constructor
          · intro h0
            obtain ⟨k, hk⟩ := List.exists_mem_of_length_pos (show 0 < (fl (toP n m) 36).length by omega)
            obtain ⟨h1, h2⟩ := (mem_fl _ _ _).1 hk
            exact ⟨k, h1, of_decide_eq_true h2⟩
          · rintro ⟨k, hk, e⟩
            have := List.length_pos_of_mem ((mem_fl (toP n m) 36 k).2 ⟨hk, decide_eq_true e⟩)
            omega
        · obtain ⟨k, hk⟩ := List.exists_mem_of_length_pos h0
          obtain ⟨h1, h2⟩ := (mem_fl _ _ _).1 hk
          exact to_len hn k h1 (of_decide_eq_true h2)
        · have hmem := List.mem_of_getElem? hik
          obtain ⟨h1, h2⟩ := (mem_fl _ _ _).1 hmem
          refine ⟨h1, fun w => ?_⟩
          have := ShiftSheet_ok n hn ((k : Int) / 6) ((k : Int) % 6) w
          rw [show m6 ((k : Int) / 6) = k / 6 by unfold m6; omega, show m6 ((k : Int) % 6) = k % 6 by unfold m6; omega] at this
          have e : sh n (k / 6) (k % 6) = m := of_decide_eq_true h2
          rw [e] at this
          exact this
theorem prF2t (a b : Nat → Int) (ha : Shy a) (hb : Shy b) : ∃ (T : List Nat) (tn : Nat) (one : Bool), T.length = tn ∧
    ClS 18 #[(.agg #[.int .i64 (a 0), .int .i64 (a 1), .int .i64 (a 2), .int .i64 (a 3), .int .i64 (a 4), .int .i64 (a 5)]), (.agg #[.int .i64 (b 0), .int .i64 (b 1), .int .i64 (b 2), .int .i64 (b 3), .int .i64 (b 4), .int .i64 (b 5)])] 33 2 tn (pl T) one ∧ ClS 19 #[(.agg #[.int .i64 (a 0), .int .i64 (a 1), .int .i64 (a 2), .int .i64 (a 3), .int .i64 (a 4), .int .i64 (a 5)]), (.agg #[.int .i64 (b 0), .int .i64 (b 1), .int .i64 (b 2), .int .i64 (b 3), .int .i64 (b 4), .int .i64 (b 5)])] 33 2 tn (pl T) one ∧ tn ≤ 36 ∧
    (one = false ∨ (one = true ∧ ∃ (X Y : Nat → Int) (O : List Nat) (on : Nat), Cl 27 #[(.agg #[.int .i64 (a 0), .int .i64 (a 1), .int .i64 (a 2), .int .i64 (a 3), .int .i64 (a 4), .int .i64 (a 5)])] (.tuple #[(.agg #[.int .i64 (X 0), .int .i64 (X 1), .int .i64 (X 2), .int .i64 (X 3), .int .i64 (X 4), .int .i64 (X 5)]), .bool true]) ∧ Cl 27 #[(.agg #[.int .i64 (b 0), .int .i64 (b 1), .int .i64 (b 2), .int .i64 (b 3), .int .i64 (b 4), .int .i64 (b 5)])] (.tuple #[(.agg #[.int .i64 (Y 0), .int .i64 (Y 1), .int .i64 (Y 2), .int .i64 (Y 3), .int .i64 (Y 4), .int .i64 (Y 5)]), .bool true]) ∧
      ClS 10 #[(.agg #[.int .i64 (a 0), .int .i64 (a 1), .int .i64 (a 2), .int .i64 (a 3), .int .i64 (a 4), .int .i64 (a 5)])] 33 2 on (pl O) true ∧ on ≤ 36 ∧ decide (0 < (tn : Int)) = eqS X Y ∧ (0 < tn → tn = on) ∧
      ∀ i k : Nat, T[i]? = some k → k < 36 ∧ Cl 28 #[(.agg #[.int .i64 (a 0), .int .i64 (a 1), .int .i64 (a 2), .int .i64 (a 3), .int .i64 (a 4), .int .i64 (a 5)]), .int .i64 ((k : Int) / 6), .int .i64 ((k : Int) % 6)] (.tuple #[(.agg #[.int .i64 (b 0), .int .i64 (b 1), .int .i64 (b 2), .int .i64 (b 3), .int .i64 (b 4), .int .i64 (b 5)]), .bool true]))) := by
  obtain ⟨T, one, h1, h2, h3, h4⟩ := prF2 a b ha hb
  refine ⟨T, T.length, one, rfl, h1, h2, h3, ?_⟩
  rcases h4 with h | ⟨h, X, Y, O, r⟩
  · exact .inl h
  · exact .inr ⟨h, X, Y, O, O.length, r⟩
theorem prF1t (s : Nat → Int) (hs : Shy s) : ∃ (L : List Nat) (ln : Nat) (many : Int) (tx ty : Nat) (ok : Bool), L.length = ln ∧
    (ClS 10 #[(.agg #[.int .i64 (s 0), .int .i64 (s 1), .int .i64 (s 2), .int .i64 (s 3), .int .i64 (s 4), .int .i64 (s 5)])] 33 2 ln (pl L) ok ∧ ClS 11 #[(.agg #[.int .i64 (s 0), .int .i64 (s 1), .int .i64 (s 2), .int .i64 (s 3), .int .i64 (s 4), .int .i64 (s 5)])] 33 2 ln (pl L) ok) ∧
    (Cl 12 #[(.agg #[.int .i64 (s 0), .int .i64 (s 1), .int .i64 (s 2), .int .i64 (s 3), .int .i64 (s 4), .int .i64 (s 5)])] (.tuple #[.int .i64 many, .bool ok]) ∧ Cl 13 #[(.agg #[.int .i64 (s 0), .int .i64 (s 1), .int .i64 (s 2), .int .i64 (s 3), .int .i64 (s 4), .int .i64 (s 5)])] (.tuple #[.int .i64 many, .bool ok])) ∧
    (Cl 14 #[(.agg #[.int .i64 (s 0), .int .i64 (s 1), .int .i64 (s 2), .int .i64 (s 3), .int .i64 (s 4), .int .i64 (s 5)])] (.tuple #[(.agg #[.int .i64 ((tx : Int)), .int .i64 ((ty : Int))]), .bool ok]) ∧ Cl 15 #[(.agg #[.int .i64 (s 0), .int .i64 (s 1), .int .i64 (s 2), .int .i64 (s 3), .int .i64 (s 4), .int .i64 (s 5)])] (.tuple #[(.agg #[.int .i64 ((tx : Int)), .int .i64 ((ty : Int))]), .bool ok])) ∧ ln ≤ 36 ∧
    (ok = false ∨ (ok = true ∧ Cl 21 #[(.agg #[.int .i64 (s 0), .int .i64 (s 1), .int .i64 (s 2), .int .i64 (s 3), .int .i64 (s 4), .int .i64 (s 5)]), .int .i64 (tx : Int), .int .i64 (ty : Int)] (.tuple #[.bool true, .bool true]) ∧ many * (ln : Int) = 36 ∧ 0 ≤ many ∧ many ≤ 36 ∧
      (∀ i k : Nat, L[i]? = some k → k < 36) ∧ decide (6 * 0 + 0 ∈ L) = true ∧ ∀ a b : Nat, a ∈ L → b ∈ L → decide (6 * ((a / 6 + b / 6) % 6) + (a % 6 + b % 6) % 6 ∈ L) = true)) := by
  obtain ⟨L, many, tx, ty, ok, h1, h2, h3, h4, h5⟩ := prF1 s hs
  exact ⟨L, L.length, many, tx, ty, ok, rfl, h1, h2, h3, h4, h5⟩
theorem prF3 (u : Nat → Int) (hu : Shy u) (x y : Int) : ∃ (is two : Bool),
    Cl 21 #[(.agg #[.int .i64 (u 0), .int .i64 (u 1), .int .i64 (u 2), .int .i64 (u 3), .int .i64 (u 4), .int .i64 (u 5)]), .int .i64 x, .int .i64 y] (.tuple #[.bool is, .bool two]) ∧ Cl 22 #[(.agg #[.int .i64 (u 0), .int .i64 (u 1), .int .i64 (u 2), .int .i64 (u 3), .int .i64 (u 4), .int .i64 (u 5)]), .int .i64 x, .int .i64 y] (.tuple #[.bool is, .bool two]) ∧
    (two = false ∨ (two = true ∧ ∃ (O : List Nat) (p q : Nat) (c d : Bool), ClS 10 #[(.agg #[.int .i64 (u 0), .int .i64 (u 1), .int .i64 (u 2), .int .i64 (u 3), .int .i64 (u 4), .int .i64 (u 5)])] 33 2 O.length (pl O) true ∧ O.length ≤ 36 ∧ (∀ i k : Nat, O[i]? = some k → k < 36) ∧ x = (p : Int) ∧ y = (q : Int) ∧ p ≤ 6 ∧ q ≤ 6 ∧
      decide (6 * (p % 6) + 0 ∈ O) = c ∧ decide (6 * 0 + q % 6 ∈ O) = d ∧ is = (c && d))) := by
  cases h : (vs u && dv x && dv y)
  · exact ⟨false, false, fun w => IsTileOf_bad u x y h w, fun w => sIsTileOf_bad u x y h w, .inl rfl⟩
  · rw [Bool.and_eq_true, Bool.and_eq_true] at h
    obtain ⟨⟨h0, hx⟩, hy⟩ := h
    rcases hu with h1 | ⟨n, hn, rfl⟩
    · rw [h1] at h0; cases h0
    · have ex := dv_cases hx
      have ey := dv_cases hy
      obtain ⟨p, rfl⟩ : ∃ p : Nat, x = (p : Int) := ⟨x.toNat, by omega⟩
      obtain ⟨q, rfl⟩ : ∃ p : Nat, y = (p : Int) := ⟨y.toNat, by omega⟩
      refine ⟨_, true, fun w => IsTileOf_ok n hn p q hx hy w, fun w => sIsTileOf_ok n hn p q hx hy w, .inr ⟨rfl, fl (toP n n) 36, p, q, _, _, fun w => PeriodsOf_ok n hn w, fl_le _ _, fun i k h => fl_lt h, rfl, rfl, by omega, by omega, rfl, rfl, ?_⟩⟩
      have e1 : decide (6 * (p % 6) + 0 ∈ fl (toP n n) 36) = decide (sh n (m6 (p : Int)) 0 = n) := by
        rw [decide_eq_decide, mem_pers]
        unfold tsh m6
        rw [show (6 * (p % 6) + 0) / 6 = p % 6 by omega, show (6 * (p % 6) + 0) % 6 = 0 by omega, show ((p : Int) % 6).toNat = p % 6 by omega]
        exact ⟨fun h => h.2, fun h => ⟨by omega, h⟩⟩
      have e2 : decide (6 * 0 + q % 6 ∈ fl (toP n n) 36) = decide (sh n 0 (m6 (q : Int)) = n) := by
        rw [decide_eq_decide, mem_pers]
        unfold tsh m6
        rw [show (6 * 0 + q % 6) / 6 = 0 by omega, show (6 * 0 + q % 6) % 6 = q % 6 by omega, show ((q : Int) % 6).toNat = q % 6 by omega]
        exact ⟨fun h => h.2, fun h => ⟨by omega, h⟩⟩
      rw [e1, e2]
      rfl
theorem ftZ_bit (g : Nat → Int) (n v j : Nat) (hj : j < 36) : (ftZ g n v 36).testBit j = ftB g n v j := by
  unfold ftZ
  rw [testBit_mkN]
  simp [hj]
theorem ft_tile (g : Nat → Int) (n v : Nat) (hn : dv (n : Int) = true) (hv : dv (v : Int) = true) : tl (ftZ g n v 36) (v : Int) (n : Int) = true := by
  have en := dv_four hn
  have ev := dv_four hv
  have hlt := ftZ_lt g n v 36 (Nat.le_refl _)
  unfold tl
  rw [Bool.and_eq_true, decide_eq_true_eq, decide_eq_true_eq]
  constructor
  · refine Nat.eq_of_testBit_eq fun j => ?_
    rcases Nat.lt_or_ge j 36 with hj | hj
    · rw [testBit_sh _ _ _ _ hj, ftZ_bit g n v _ (by unfold src; omega), ftZ_bit g n v j hj]
      have hA : src (m6 (v : Int)) 0 j / 6 = j / 6 := by unfold src m6; rcases ev with rfl | rfl | rfl | rfl <;> simp <;> omega
      have hB : src (m6 (v : Int)) 0 j % 6 % v = j % 6 % v := by unfold src m6; rcases ev with rfl | rfl | rfl | rfl <;> simp <;> omega
      unfold ftB
      rw [hA, hB]
    · rw [bit_ge (sh_lt _ _ _) hj, bit_ge hlt hj]
  · refine Nat.eq_of_testBit_eq fun j => ?_
    rcases Nat.lt_or_ge j 36 with hj | hj
    · rw [testBit_sh _ _ _ _ hj, ftZ_bit g n v _ (by unfold src; omega), ftZ_bit g n v j hj]
      have hA : src 0 (m6 (n : Int)) j / 6 % n = j / 6 % n := by unfold src m6; rcases en with rfl | rfl | rfl | rfl <;> simp <;> omega
      have hB : src 0 (m6 (n : Int)) j % 6 = j % 6 := by unfold src m6; rcases en with rfl | rfl | rfl | rfl <;> simp <;> omega
      unfold ftB
      rw [hA, hB]
    · rw [bit_ge (sh_lt _ _ _) hj, bit_ge hlt hj]
theorem prF4 (m v : Nat) (hm : m ≤ 6) (g : Nat → Int) : ∃ (Z : Nat → Int) (three : Bool),
    (∀ (B : Nat) (u : Value) (w : World), w.ownsRow B 3 1 u m (Gl m g) → Calls Try.prog 24 #[u, .int .i64 (v : Int)] w fun e w' => e = .returned (.tuple #[(.agg #[.int .i64 (Z 0), .int .i64 (Z 1), .int .i64 (Z 2), .int .i64 (Z 3), .int .i64 (Z 4), .int .i64 (Z 5)]), .bool three]) ∧ Ext w w') ∧
    (∀ (B : Nat) (u : Value) (w : World), w.ownsRow B 3 1 u m (Gl m g) → Calls Try.prog 25 #[u, .int .i64 (v : Int)] w fun e w' => e = .returned (.tuple #[(.agg #[.int .i64 (Z 0), .int .i64 (Z 1), .int .i64 (Z 2), .int .i64 (Z 3), .int .i64 (Z 4), .int .i64 (Z 5)]), .bool three]) ∧ Ext w w') ∧
    (three = false ∨ (three = true ∧ Cl 21 #[(.agg #[.int .i64 (Z 0), .int .i64 (Z 1), .int .i64 (Z 2), .int .i64 (Z 3), .int .i64 (Z 4), .int .i64 (Z 5)]), .int .i64 (v : Int), .int .i64 (m : Int)] (.tuple #[.bool true, .bool true]))) := by
  cases hd : (dv (m : Int) && dv (v : Int))
  · exact ⟨fun _ => 0, false, fun B u w ho => FromTile_div m v g (by omega) hd B u w ho, fun B u w ho => sFromTile_bad m v g (by omega) hd B u w ho, .inl rfl⟩
  · obtain ⟨h1, h2⟩ := Bool.and_eq_true_iff.1 hd
    rcases first_bad (ftOk g v) m with hg | ⟨j0, hj0, hg, hok⟩
    · refine ⟨_, true, fun B u w ho => FromTile_ok m v g h1 h2 hg B u w ho, fun B u w ho => sFromTile_ok m v g h1 h2 hg B u w ho, .inr ⟨rfl, fun w => ?_⟩⟩
      have := IsTileOf_ok (ftZ g m v 36) (ftZ_lt g m v 36 (Nat.le_refl _)) v m h2 h1 w
      rw [ft_tile g m v h1 h2] at this
      exact this
    · exact ⟨fun _ => 0, false, fun B u w ho => FromTile_out m v g h1 h2 j0 hj0 hg hok B u w ho, fun B u w ho => sFromTile_out m v g h1 h2 j0 hj0 hg hok B u w ho, .inl rfl⟩
end Go.Proofs.Ytlifhoajamnehaa
set_option linter.unusedVariables false
set_option linter.unusedSimpArgs false
set_option maxRecDepth 100000
set_option maxHeartbeats 1000000
namespace Go.Proofs.Ytlifhoajamnehaa
open Go Go.RowKit
/-! what a law keeps of its own sheets from call to call -/
def Kp (w : World) (b : Nat) (g : Nat → Int) : Prop := Arr w b g ∧ b < w.heap.size
theorem Kp.ext {w w' : World} {b : Nat} {g : Nat → Int} (h : Kp w b g) (hx : Ext w w') : Kp w' b g := ⟨h.1.ext hx h.2, Nat.lt_of_lt_of_le h.2 hx.size⟩
theorem Kp.c6 {w : World} {b : Nat} {g : Nat → Int} (h : Kp w b g) : b < w.heap.size ∧ w.cell? ⟨b, 0, none⟩ = some (.int .i64 (g 0)) ∧ w.cell? ⟨b, 1, none⟩ = some (.int .i64 (g 1)) ∧ w.cell? ⟨b, 2, none⟩ = some (.int .i64 (g 2)) ∧ w.cell? ⟨b, 3, none⟩ = some (.int .i64 (g 3)) ∧ w.cell? ⟨b, 4, none⟩ = some (.int .i64 (g 4)) ∧ w.cell? ⟨b, 5, none⟩ = some (.int .i64 (g 5)) :=
  ⟨h.2, h.1.all.1⟩
theorem Kp.new1 {w w' : World} {T : TypeId} (g : Nat → Int) (h : Ext (w.alloc (.cells #[.int .i64 (g 0), .int .i64 (g 1), .int .i64 (g 2), .int .i64 (g 3), .int .i64 (g 4), .int .i64 (g 5)] T)) w') : Kp w' w.heap.size g :=
  Kp.ext (w := w.alloc (.cells #[.int .i64 (g 0), .int .i64 (g 1), .int .i64 (g 2), .int .i64 (g 3), .int .i64 (g 4), .int .i64 (g 5)] T)) ⟨Arr.new w g T rfl, by simp⟩ h
theorem Kp.new21 {w w' : World} {T : TypeId} {o : Obj} (g : Nat → Int) (h : Ext ((w.alloc (.cells #[.int .i64 (g 0), .int .i64 (g 1), .int .i64 (g 2), .int .i64 (g 3), .int .i64 (g 4), .int .i64 (g 5)] T)).alloc o) w') : Kp w' w.heap.size g := Kp.new1 g (((Ext.refl _).alloc o).trans h)
theorem Kp.new22 {w w' : World} {T : TypeId} {o : Obj} (g : Nat → Int) (h : Ext ((w.alloc o).alloc (.cells #[.int .i64 (g 0), .int .i64 (g 1), .int .i64 (g 2), .int .i64 (g 3), .int .i64 (g 4), .int .i64 (g 5)] T)) w') : Kp w' (w.heap.size + 1) g := by
  have := Kp.new1 g h
  simp at this
  exact this
theorem Ext.link0 {a w w' : World} (h : Ext a w) (k : Ext w w') : Ext w w' := k
theorem Ext.link1 {a w w' : World} {o : Obj} (h : Ext a w) (k : Ext (w.alloc o) w') : Ext w w' := ((Ext.refl w).alloc o).trans k
theorem Ext.link2 {a w w' : World} {o p : Obj} (h : Ext a w) (k : Ext ((w.alloc o).alloc p) w') : Ext w w' := (((Ext.refl w).alloc o).alloc p).trans k
theorem Ext.link3 {a w w' : World} {o p q : Obj} (h : Ext a w) (k : Ext (((w.alloc o).alloc p).alloc q) w') : Ext w w' := ((((Ext.refl w).alloc o).alloc p).alloc q).trans k
end Go.Proofs.Ytlifhoajamnehaa
set_option linter.unusedVariables false
set_option linter.unusedSimpArgs false
set_option maxRecDepth 100000
set_option maxHeartbeats 1000000
namespace Go.Proofs.Ytlifhoajamnehaa
open Go Go.RowKit Instr
/-! what a law keeps of its own rows, and of its tables of 36 -/
def KpO (w : World) (B : Nat) (T : TypeId) (sz : Nat) (v : Value) (n : Nat) (xs : List Value) : Prop := w.ownsRow B T sz v n xs
theorem KpO.mk {w : World} {B : Nat} {T : TypeId} {sz : Nat} {v : Value} {n : Nat} {xs : List Value} (h : w.ownsRow B T sz v n xs) : KpO w B T sz v n xs := h
theorem KpO.row {w : World} {B : Nat} {T : TypeId} {sz : Nat} {v : Value} {n : Nat} {xs : List Value} (h : KpO w B T sz v n xs) : w.ownsRow B T sz v n xs := h
theorem KpO.ext {w w' : World} {B : Nat} {T : TypeId} {sz : Nat} {v : Value} {n : Nat} {xs : List Value} (h : KpO w B T sz v n xs) (hx : Ext w w') : KpO w' B T sz v n xs := own_ext h hx
theorem KpO.c6 {w : World} {B : Nat} {T : TypeId} {sz : Nat} {v : Value} {n : Nat} {xs : List Value} (h : KpO w B T sz v n xs) : True := trivial
def KpM (w : World) (b : Nat) (g : Nat → Int) : Prop := Big w b 65 36 g
theorem KpM.mk {w : World} {b : Nat} {g : Nat → Int} (h : Big w b 65 36 g) : KpM w b g := h
theorem KpM.ext {w w' : World} {b : Nat} {g : Nat → Int} (h : KpM w b g) (hx : Ext w w') : KpM w' b g := Big.ext h hx
theorem KpM.c6 {w : World} {b : Nat} {g : Nat → Int} (h : KpM w b g) : b < w.heap.size := Big.lt h
end Go.Proofs.Ytlifhoajamnehaa
set_option linter.unusedVariables false
set_option linter.unusedSimpArgs false
set_option maxRecDepth 100000
set_option maxHeartbeats 1000000
namespace Go.Proofs.Ytlifhoajamnehaa
open Go Go.RowKit
/-! what a law keeps of its own blocks of two numbers, and of its tables -/
def Kp2 (w : World) (b : Nat) (x y : Int) : Prop := b < w.heap.size ∧ w.cell? ⟨b, 0, none⟩ = some (.int .i64 x) ∧ w.cell? ⟨b, 1, none⟩ = some (.int .i64 y)
theorem Kp2.ext {w w' : World} {b : Nat} {x y : Int} (h : Kp2 w b x y) (hx : Ext w w') : Kp2 w' b x y :=
  ⟨Nat.lt_of_lt_of_le h.1 hx.size, (hx.cells _ _ h.1).trans h.2.1, (hx.cells _ _ h.1).trans h.2.2⟩
theorem Kp2.c6 {w : World} {b : Nat} {x y : Int} (h : Kp2 w b x y) : b < w.heap.size ∧ w.cell? ⟨b, 0, none⟩ = some (.int .i64 x) ∧ w.cell? ⟨b, 1, none⟩ = some (.int .i64 y) := h
theorem Kp2.new1 {w w' : World} {T : TypeId} (x y : Int) (h : Ext (w.alloc (.cells #[.int .i64 x, .int .i64 y] T)) w') : Kp2 w' w.heap.size x y := by
  refine Kp2.ext (w := w.alloc (.cells #[.int .i64 x, .int .i64 y] T)) ?_ h
  have hh := heap_alloc_new w (.cells #[.int .i64 x, .int .i64 y] T)
  exact ⟨by simp, cell_of_row _ _ 0 _ T _ hh, cell_of_row _ _ 1 _ T _ hh⟩
def KpB (w : World) (b : Nat) (g : Nat → Int) : Prop := Big w b 53 37 g
theorem KpB.mk {w : World} {b : Nat} {g : Nat → Int} (h : Big w b 53 37 g) : KpB w b g := h
theorem KpB.ext {w w' : World} {b : Nat} {g : Nat → Int} (h : KpB w b g) (hx : Ext w w') : KpB w' b g := Big.ext h hx
theorem KpB.c6 {w : World} {b : Nat} {g : Nat → Int} (h : KpB w b g) : b < w.heap.size := Big.lt h
end Go.Proofs.Ytlifhoajamnehaa
