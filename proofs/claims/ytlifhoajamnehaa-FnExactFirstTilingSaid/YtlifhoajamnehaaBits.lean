/- Bits: contracts of functions, and lemmas, for this seat. Conditions: as each states. -/
import Derived.Test.YtlifhoajamnehaaBase
set_option linter.unusedVariables false
set_option maxRecDepth 100000
set_option maxHeartbeats 1000000
namespace Go.Proofs.Ytlifhoajamnehaa
open Go Go.RowKit
/-! bits of ints -/
theorem ofInt64 (a : Nat) (ha : a < 9223372036854775808) : (BitVec.ofInt 64 (a : Int)).toNat = a := by
  rw [BitVec.ofInt_natCast, BitVec.toNat_ofNat]; exact Nat.mod_eq_of_lt (by omega)
theorem iand (a b : Nat) (ha : a < 9223372036854775808) (hb : b < 9223372036854775808) : bits .and .i64 (a : Int) (b : Int) = ((a &&& b : Nat) : Int) := by
  have hx : a &&& b < 2 ^ 63 := Nat.and_lt_two_pow _ (by omega)
  show IntKind.i64.wrap ((BitVec.ofInt 64 (a : Int) &&& BitVec.ofInt 64 (b : Int)).toNat : Int) = _
  rw [BitVec.toNat_and, ofInt64 a ha, ofInt64 b hb, IntKind.wrap_i64]
  omega
theorem ior (a b : Nat) (ha : a < 9223372036854775808) (hb : b < 9223372036854775808) : bits .or .i64 (a : Int) (b : Int) = ((a ||| b : Nat) : Int) := by
  have hx : a ||| b < 2 ^ 63 := Nat.or_lt_two_pow (by omega) (by omega)
  show IntKind.i64.wrap ((BitVec.ofInt 64 (a : Int) ||| BitVec.ofInt 64 (b : Int)).toNat : Int) = _
  rw [BitVec.toNat_or, ofInt64 a ha, ofInt64 b hb, IntKind.wrap_i64]
  omega
theorem ixor (a b : Nat) (ha : a < 9223372036854775808) (hb : b < 9223372036854775808) : bits .xor .i64 (a : Int) (b : Int) = ((a ^^^ b : Nat) : Int) := by
  have hx : a ^^^ b < 2 ^ 63 := Nat.xor_lt_two_pow (by omega) (by omega)
  show IntKind.i64.wrap ((BitVec.ofInt 64 (a : Int) ^^^ BitVec.ofInt 64 (b : Int)).toNat : Int) = _
  rw [BitVec.toNat_xor, ofInt64 a ha, ofInt64 b hb, IntKind.wrap_i64]
  omega
theorem rw_nat (n y : Nat) : rw n y = (rowN n y : Nat) := by unfold rw; rfl
theorem get_bit (n x y : Nat) (hx : x < 6) : (bits .and .i64 (rw n y / 2 ^ x) 1 == 1) = n.testBit (6 * y + x) := by
  have h := rowN_lt n y
  have e : rw n y / 2 ^ x = ((rowN n y / 2 ^ x : Nat) : Int) := by unfold rw; simp
  have hle : rowN n y / 2 ^ x ≤ rowN n y := Nat.div_le_self _ _
  have hb := testBit_rowN n y x
  rw [Nat.testBit_eq_decide_div_mod_eq] at hb
  rw [e, show (1 : Int) = ((1 : Nat) : Int) from rfl, iand _ _ (by omega) (by omega), nat_mask1]
  have h6 : decide (x < 6) = true := by simpa using hx
  rw [h6, Bool.true_and] at hb
  rw [← hb]
  rcases Nat.mod_two_eq_zero_or_one (rowN n y / 2 ^ x) with h2 | h2 <;> rw [h2] <;> rfl
/-! the rows of a set that is made out of others -/
theorem rw_row {a : Nat} {n y : Nat} (h : ∀ x, x < 6 → a.testBit x = n.testBit (6 * y + x)) (ha : a < 64) : (a : Int) = rw n y := by
  unfold rw
  refine nat_int (row_ext ha (rowN_lt n y) fun x hx => ?_)
  rw [h x hx, testBit_rowN]
  simp [hx]
theorem xor_row (a b y : Nat) : bits .xor .i64 (rw a y) (rw b y) = rw (a ^^^ b) y := by
  have h1 := rowN_lt a y
  have h2 := rowN_lt b y
  rw [rw_nat, rw_nat, ixor _ _ (by omega) (by omega)]
  exact rw_row (fun x hx => by rw [Nat.testBit_xor, Nat.testBit_xor, testBit_rowN, testBit_rowN]; simp [hx]) (Nat.xor_lt_two_pow (n := 6) h1 h2)
theorem or_row (a b y : Nat) : bits .or .i64 (rw a y) (rw b y) = rw (a ||| b) y := by
  have h1 := rowN_lt a y
  have h2 := rowN_lt b y
  rw [rw_nat, rw_nat, ior _ _ (by omega) (by omega)]
  exact rw_row (fun x hx => by rw [Nat.testBit_or, Nat.testBit_or, testBit_rowN, testBit_rowN]; simp [hx]) (Nat.or_lt_two_pow (n := 6) h1 h2)
theorem and_row (a b y : Nat) : bits .and .i64 (rw a y) (rw b y) = rw (a &&& b) y := by
  have h1 := rowN_lt a y
  have h2 := rowN_lt b y
  rw [rw_nat, rw_nat, iand _ _ (by omega) (by omega)]
  exact rw_row (fun x hx => by rw [Nat.testBit_and, Nat.testBit_and, testBit_rowN, testBit_rowN]; simp [hx]) (Nat.lt_of_le_of_lt Nat.and_le_left h1)
/-- all cells that are not in a set -/
def cmp (n : Nat) : Nat := mkN (fun k => !n.testBit k) 36
theorem cmp_lt (n : Nat) : cmp n < 68719476736 := mk36_lt _
theorem testBit_cmp (n k : Nat) (hk : k < 36) : (cmp n).testBit k = !n.testBit k := by unfold cmp; rw [testBit_mkN]; simp [hk]
theorem sub63 (a : Nat) (ha : a < 64) (x : Nat) (hx : x < 6) : (63 - a).testBit x = !a.testBit x := by
  have : ∀ a, a < 64 → ∀ x, x < 6 → (63 - a).testBit x = !a.testBit x := by decide +kernel
  exact this a ha x hx
theorem not_row (n y : Nat) (hy : y < 6) : 63 - rw n y = rw (cmp n) y := by
  have h := rowN_lt n y
  rw [rw_nat, show (63 : Int) - ((rowN n y : Nat) : Int) = ((63 - rowN n y : Nat) : Int) by omega]
  exact rw_row (fun x hx => by rw [sub63 _ h x hx, testBit_cmp _ _ (by omega), testBit_rowN]; simp [hx]) (by omega)
theorem flip_row (n x y : Nat) (hx : x < 6) (hy : y < 6) : bits .xor .i64 (rw n y) (IntKind.i64.wrap (2 ^ x)) = rw (n ^^^ 2 ^ (6 * y + x)) y := by
  have h1 := rowN_lt n y
  have h2 : 2 ^ x < 2 ^ 6 := Nat.pow_lt_pow_right (by omega) hx
  have e : IntKind.i64.wrap (2 ^ x) = ((2 ^ x : Nat) : Int) := by
    rw [show ((2 : Int) ^ x) = ((2 ^ x : Nat) : Int) by simp]
    refine IntWalk.i64_in _ ⟨by have := Int.natCast_nonneg (2 ^ x); omega, ?_⟩
    generalize 2 ^ x = m at *
    omega
  rw [e, rw_nat, ixor _ _ (by omega) (by omega)]
  refine rw_row (fun j hj => ?_) (Nat.xor_lt_two_pow (n := 6) h1 h2)
  rw [Nat.testBit_xor, Nat.testBit_xor, testBit_rowN, Nat.testBit_two_pow, Nat.testBit_two_pow]
  have : decide (x = j) = decide (6 * y + x = 6 * y + j) := by simp
  rw [this]
  simp [hj]
theorem flip_other (n x y j : Nat) (hx : x < 6) (hj : j ≠ y) : rw n j = rw (n ^^^ 2 ^ (6 * y + x)) j := by
  rw [rw_nat n j]
  refine rw_row (fun i hi => ?_) (rowN_lt n j)
  rw [Nat.testBit_xor, testBit_rowN, Nat.testBit_two_pow]
  have : decide (6 * y + x = 6 * j + i) = false := by simp; omega
  rw [this]
  simp [hi]
theorem flip_lt {n k : Nat} (hn : n < 68719476736) (hk : k < 36) : n ^^^ 2 ^ k < 68719476736 := xor36 hn (pow36 hk)
theorem shl_or : ∀ a, a < 64 → ∀ x, x < 6 → ∀ j, j < 6 → (a * 2 ^ x % 64 ||| a / 2 ^ (6 - x)).testBit j = a.testBit ((j + (6 - x)) % 6) := by decide +kernel
theorem shift_row (n i x y : Nat) (hi : i < 6) (hx : x < 6) (hy : y < 6) : bits .or .i64 (bits .and .i64 (IntKind.i64.wrap (rw n i * 2 ^ x)) 63) (rw n i / 2 ^ (6 - x)) = rw (sh n x y) ((i + y) % 6) := by
  have h1 := rowN_lt n i
  have h2 : 2 ^ x < 2 ^ 6 := Nat.pow_lt_pow_right (by omega) hx
  have h3 : rowN n i * 2 ^ x < 64 * 64 := Nat.mul_lt_mul_of_lt_of_le h1 (by omega) (by omega)
  have h4 : rowN n i / 2 ^ (6 - x) ≤ rowN n i := Nat.div_le_self _ _
  have e1 : rw n i * 2 ^ x = ((rowN n i * 2 ^ x : Nat) : Int) := by unfold rw; simp
  have e2 : rw n i / 2 ^ (6 - x) = ((rowN n i / 2 ^ (6 - x) : Nat) : Int) := by unfold rw; simp
  rw [e1, e2, IntWalk.i64_in _ ⟨by have := Int.natCast_nonneg (rowN n i * 2 ^ x); omega, by omega⟩, show (63 : Int) = ((63 : Nat) : Int) from rfl, iand _ _ (by omega) (by omega), nat_mask6, ior _ _ (by omega) (by omega)]
  refine rw_row (fun j hj => ?_) (Nat.or_lt_two_pow (n := 6) (Nat.mod_lt _ (by omega)) (by omega))
  rw [shl_or _ h1 x hx j hj, testBit_rowN, testBit_sh _ _ _ _ (by omega)]
  have : src x y (6 * ((i + y) % 6) + j) = 6 * i + (j + (6 - x)) % 6 := by unfold src; omega
  rw [this]
  have h5 : decide ((j + (6 - x)) % 6 < 6) = true := by simp; omega
  rw [h5, Bool.true_and]
/-! counting -/
theorem cntN_bit (n k : Nat) : cntN n (k + 1) = cntN n k + n / 2 ^ k % 2 := by
  rw [cntN, Nat.testBit_eq_decide_div_mod_eq]
  have := Nat.mod_two_eq_zero_or_one (n / 2 ^ k)
  rcases this with h | h <;> simp [h]
theorem row_bit (n k j : Nat) (hj : j < 6) : rowN n k / 2 ^ j % 2 = n / 2 ^ (6 * k + j) % 2 := by
  have h1 := testBit_rowN n k j
  rw [Nat.testBit_eq_decide_div_mod_eq, Nat.testBit_eq_decide_div_mod_eq] at h1
  have h6 : decide (j < 6) = true := by simpa using hj
  rw [h6, Bool.true_and] at h1
  have a := Nat.mod_two_eq_zero_or_one (rowN n k / 2 ^ j)
  have b := Nat.mod_two_eq_zero_or_one (n / 2 ^ (6 * k + j))
  rcases a with a | a <;> rcases b with b | b <;> simp [a, b] at h1 ⊢
theorem cnt_rest (n k j : Nat) (hj : j ≤ 6) (h : rowN n k / 2 ^ j = 0) : cntN n (6 * k + j) = cntN n (6 * k + 6) := by
  have step : ∀ d i, i + d = 6 → j ≤ i → cntN n (6 * k + i) = cntN n (6 * k + 6) := by
    intro d
    induction d with
    | zero => intro i h1 _; rw [show i = 6 by omega]
    | succ d ih =>
      intro i h1 h2
      rw [← ih (i + 1) (by omega) (by omega), show 6 * k + (i + 1) = 6 * k + i + 1 by omega, cntN_bit, ← row_bit n k i (by omega)]
      have : rowN n k / 2 ^ i = 0 := by
        have e : 2 ^ i = 2 ^ j * 2 ^ (i - j) := by rw [← Nat.pow_add]; congr 1; omega
        rw [e, ← Nat.div_div_eq_div_mul, h, Nat.zero_div]
      rw [this, Nat.zero_mod, Nat.add_zero]
  exact step (6 - j) j (by omega) (Nat.le_refl _)
end Go.Proofs.Ytlifhoajamnehaa
