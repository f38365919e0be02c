/- PopM: contracts of functions, and lemmas, for this seat. Conditions: as each states. -/
import Derived.Test.YtlifhoajamnehaaMathB
import Derived.Test.YtlifhoajamnehaaBits
set_option linter.unusedVariables false
set_option maxRecDepth 100000
set_option maxHeartbeats 1000000
namespace Go.Proofs.Ytlifhoajamnehaa
open Go Go.RowKit
/-! how many bits a number has, by its bytes -/
theorem and_byte (x m : Nat) : x &&& m = (x % 256 &&& m % 256) + 256 * (x / 256 &&& m / 256) := by
  have h1 := Nat.and_mod_two_pow (a := x) (b := m) (n := 8)
  have h2 := Nat.and_div_two_pow (a := x) (b := m) (n := 8)
  rw [show (2 : Nat) ^ 8 = 256 from rfl] at h1 h2
  omega
def p1 (b : Nat) : Nat := (b / 2 &&& 85) + (b &&& 85)
def p2 (b : Nat) : Nat := (p1 b / 4 &&& 51) + (p1 b &&& 51)
def p3 (b : Nat) : Nat := (p2 b / 16 + p2 b) &&& 15
def bits8 (b : Nat) : Nat := b % 2 + b / 2 % 2 + b / 4 % 2 + b / 8 % 2 + b / 16 % 2 + b / 32 % 2 + b / 64 % 2 + b / 128 % 2
theorem p_facts : ∀ b, b < 256 → p1 b < 256 ∧ p2 b < 256 ∧ p2 b / 16 ≤ 4 ∧ p2 b % 16 ≤ 4 ∧ p3 b = bits8 b := by decide +kernel
def s1 (M x : Nat) : Nat := (x / 2 &&& M) + (x &&& M)
def s2 (M x : Nat) : Nat := (x / 4 &&& M) + (x &&& M)
def s3 (M x : Nat) : Nat := (x / 16 + x) &&& M
theorem c1 : ∀ b, b < 256 → ∀ t, t < 2 → (b / 2 + 128 * t) &&& 85 = b / 2 &&& 85 := by decide +kernel
theorem c2 : ∀ b, b < 256 → ∀ t, t < 4 → (b / 4 + 64 * t) &&& 51 = b / 4 &&& 51 := by decide +kernel
theorem c3 : ∀ b, b < 256 → ∀ t, t < 5 → (b / 16 + b + 16 * t) &&& 15 = (b / 16 + b) &&& 15 := by decide +kernel
theorem s1_byte (M b q : Nat) (hM : M % 256 = 85) (hb : b < 256) : s1 M (b + 256 * q) = p1 b + 256 * s1 (M / 256) q := by
  unfold s1 p1
  rw [and_byte ((b + 256 * q) / 2) M, and_byte (b + 256 * q) M, hM, show (b + 256 * q) / 2 % 256 = b / 2 + 128 * (q % 2) by omega, show (b + 256 * q) / 2 / 256 = q / 2 by omega, show (b + 256 * q) % 256 = b by omega, show (b + 256 * q) / 256 = q by omega, c1 b hb _ (by omega)]
  omega
theorem s2_byte (M b q : Nat) (hM : M % 256 = 51) (hb : b < 256) : s2 M (b + 256 * q) = ((b / 4 &&& 51) + (b &&& 51)) + 256 * s2 (M / 256) q := by
  unfold s2
  rw [and_byte ((b + 256 * q) / 4) M, and_byte (b + 256 * q) M, hM, show (b + 256 * q) / 4 % 256 = b / 4 + 64 * (q % 4) by omega, show (b + 256 * q) / 4 / 256 = q / 4 by omega, show (b + 256 * q) % 256 = b by omega, show (b + 256 * q) / 256 = q by omega, c2 b hb _ (by omega)]
  omega
theorem s3_byte (M b q : Nat) (hM : M % 256 = 15) (hb : b < 256) (h1 : b / 16 ≤ 4) (h2 : b % 16 ≤ 4) (hq : q % 16 ≤ 4) : s3 M (b + 256 * q) = ((b / 16 + b) &&& 15) + 256 * s3 (M / 256) q := by
  unfold s3
  rw [and_byte ((b + 256 * q) / 16 + (b + 256 * q)) M, hM, show ((b + 256 * q) / 16 + (b + 256 * q)) % 256 = b / 16 + b + 16 * (q % 16) by omega, show ((b + 256 * q) / 16 + (b + 256 * q)) / 256 = q / 16 + q by omega, c3 b hb _ (by omega)]
theorem s1_0 (M : Nat) : s1 M 0 = 0 := by unfold s1; simp
theorem s2_0 (M : Nat) : s2 M 0 = 0 := by unfold s2; simp
theorem s3_0 (M : Nat) : s3 M 0 = 0 := by unfold s3; simp
/-- five bytes -/
def by5 (a b c d e : Nat) : Nat := a + 256 * (b + 256 * (c + 256 * (d + 256 * e)))
def M1 : Nat := 6148914691236517205
def M2 : Nat := 3689348814741910323
def M3 : Nat := 1085102592571150095
theorem s1_5 (a b c d e : Nat) (ha : a < 256) (hb : b < 256) (hc : c < 256) (hd : d < 256) (he : e < 256) : s1 M1 (by5 a b c d e) = by5 (p1 a) (p1 b) (p1 c) (p1 d) (p1 e) := by
  unfold by5
  rw [s1_byte _ a _ (by decide) ha, s1_byte _ b _ (by decide) hb, s1_byte _ c _ (by decide) hc, s1_byte _ d _ (by decide) hd]
  have := s1_byte (M1 / 256 / 256 / 256 / 256) e 0 (by decide) he
  simp only [s1_0, Nat.mul_zero, Nat.add_zero] at this
  rw [this]
theorem s2_5 (a b c d e : Nat) (ha : a < 256) (hb : b < 256) (hc : c < 256) (hd : d < 256) (he : e < 256) : s2 M2 (by5 (p1 a) (p1 b) (p1 c) (p1 d) (p1 e)) = by5 (p2 a) (p2 b) (p2 c) (p2 d) (p2 e) := by
  have ha := (p_facts a ha).1
  have hb := (p_facts b hb).1
  have hc := (p_facts c hc).1
  have hd := (p_facts d hd).1
  have he := (p_facts e he).1
  unfold by5 p2
  rw [s2_byte _ (p1 a) _ (by decide) ha, s2_byte _ (p1 b) _ (by decide) hb, s2_byte _ (p1 c) _ (by decide) hc, s2_byte _ (p1 d) _ (by decide) hd]
  have := s2_byte (M2 / 256 / 256 / 256 / 256) (p1 e) 0 (by decide) he
  simp only [s2_0, Nat.mul_zero, Nat.add_zero] at this
  rw [this]
theorem s3_5 (a b c d e : Nat) (ha : a < 256) (hb : b < 256) (hc : c < 256) (hd : d < 256) (he : e < 256) : s3 M3 (by5 (p2 a) (p2 b) (p2 c) (p2 d) (p2 e)) = by5 (p3 a) (p3 b) (p3 c) (p3 d) (p3 e) := by
  obtain ⟨_, ha1, ha2, ha3, _⟩ := p_facts a ha
  obtain ⟨_, hb1, hb2, hb3, _⟩ := p_facts b hb
  obtain ⟨_, hc1, hc2, hc3, _⟩ := p_facts c hc
  obtain ⟨_, hd1, hd2, hd3, _⟩ := p_facts d hd
  obtain ⟨_, he1, he2, he3, _⟩ := p_facts e he
  unfold by5
  have := s3_byte (M3 / 256 / 256 / 256 / 256) (p2 e) 0 (by decide) he1 he2 he3 (by omega)
  simp only [s3_0, Nat.mul_zero, Nat.add_zero] at this
  rw [s3_byte _ (p2 a) _ (by decide) ha1 ha2 ha3 (by omega), s3_byte _ (p2 b) _ (by decide) hb1 hb2 hb3 (by omega), s3_byte _ (p2 c) _ (by decide) hc1 hc2 hc3 (by omega), s3_byte _ (p2 d) _ (by decide) hd1 hd2 hd3 (by omega), this]
  rfl
theorem cnt_byte (n i : Nat) : cntN n (8 * i + 8) = cntN n (8 * i) + bits8 (n / 2 ^ (8 * i) % 256) := by
  have e : ∀ j, j < 8 → n / 2 ^ (8 * i + j) % 2 = n / 2 ^ (8 * i) % 256 / 2 ^ j % 2 := fun j hj => by
    rw [Nat.pow_add, ← Nat.div_div_eq_div_mul]
    generalize n / 2 ^ (8 * i) = x
    match j, hj with
    | 0, _ => (simp only [Nat.reducePow]; omega)
    | 1, _ => (simp only [Nat.reducePow]; omega)
    | 2, _ => (simp only [Nat.reducePow]; omega)
    | 3, _ => (simp only [Nat.reducePow]; omega)
    | 4, _ => (simp only [Nat.reducePow]; omega)
    | 5, _ => (simp only [Nat.reducePow]; omega)
    | 6, _ => (simp only [Nat.reducePow]; omega)
    | 7, _ => (simp only [Nat.reducePow]; omega)
  rw [show 8 * i + 8 = 8 * i + 7 + 1 from rfl, cntN_bit, e 7 (by omega), cntN_bit, e 6 (by omega), cntN_bit, e 5 (by omega), cntN_bit, e 4 (by omega), cntN_bit, e 3 (by omega), cntN_bit, e 2 (by omega), cntN_bit, e 1 (by omega), cntN_bit, ← Nat.add_zero (8 * i), e 0 (by omega), Nat.add_zero]
  unfold bits8
  simp only [Nat.reducePow]
  omega
theorem cnt_40 {n : Nat} (hn : n < 68719476736) : cntN n 40 = cnt n := by
  have z : ∀ j, 36 ≤ j → n / 2 ^ j % 2 = 0 := fun j hj => by
    rw [Nat.div_eq_of_lt (Nat.lt_of_lt_of_le hn (Nat.pow_le_pow_right (n := 2) (by omega) hj))]
  unfold cnt
  rw [cntN_bit n 39, cntN_bit n 38, cntN_bit n 37, cntN_bit n 36, z 36 (by omega), z 37 (by omega), z 38 (by omega), z 39 (by omega)]
  simp only [Nat.add_zero]
theorem by5_of {n : Nat} (hn : n < 68719476736) : ∃ a b c d e, n = by5 a b c d e ∧ a < 256 ∧ b < 256 ∧ c < 256 ∧ d < 256 ∧ e < 256 ∧ cnt n = bits8 a + bits8 b + bits8 c + bits8 d + bits8 e := by
  refine ⟨n % 256, n / 256 % 256, n / 65536 % 256, n / 16777216 % 256, n / 4294967296 % 256, ?_, by omega, by omega, by omega, by omega, by omega, ?_⟩
  · unfold by5; omega
  · rw [← cnt_40 hn, cnt_byte n 4, cnt_byte n 3, cnt_byte n 2, cnt_byte n 1, cnt_byte n 0]
    simp only [Nat.reducePow, Nat.reduceMul, Nat.div_one, Nat.pow_zero, cntN]
    omega
/-- the sum of the bytes -/
theorem by5_sum (a b c d e : Nat) (ha : a ≤ 8) (hb : b ≤ 8) (hc : c ≤ 8) (hd : d ≤ 8) (he : e ≤ 8) (x y z : Nat) (hx : x = by5 a b c d e + by5 a b c d e / 256) (hy : y = x + x / 65536) (hz : z = y + y / 4294967296) : z % 128 = a + b + c + d + e := by
  unfold by5 at hx
  have h1 : (a + 256 * (b + 256 * (c + 256 * (d + 256 * e)))) / 256 = b + 256 * (c + 256 * (d + 256 * e)) := by omega
  rw [h1] at hx
  have h2 : x = (a + b) + 256 * (b + c) + 65536 * ((c + d) + 256 * (d + e) + 65536 * e) := by omega
  clear hx h1
  have h3 : x / 65536 = (c + d) + 256 * (d + e) + 65536 * e := by omega
  have h4 : y = ((a + b + c + d) + 256 * (b + c + d + e) + 65536 * (c + d + e) + 16777216 * (d + e)) + 4294967296 * e := by omega
  clear hy h2 h3
  have h5 : y / 4294967296 = e := by omega
  have h6 : z = (a + b + c + d + e) + 128 * (2 * (b + c + d + e) + 512 * (c + d + e) + 131072 * (d + e) + 33554432 * e) := by omega
  clear hz h4 h5
  omega
theorem bits8_le (b : Nat) : bits8 b ≤ 8 := by unfold bits8; omega
/-- what math/bits.OnesCount64 makes of a set is its size -/
theorem pop_cnt {n : Nat} (hn : n < 68719476736) (x y z : Nat) (hx : x = s3 M3 (s2 M2 (s1 M1 n)) + s3 M3 (s2 M2 (s1 M1 n)) / 256) (hy : y = x + x / 65536) (hz : z = y + y / 4294967296) : z % 128 = cnt n := by
  obtain ⟨a, b, c, d, e, h, ha, hb, hc, hd, he, hs⟩ := by5_of hn
  rw [h, s1_5 a b c d e ha hb hc hd he, s2_5 a b c d e ha hb hc hd he, s3_5 a b c d e ha hb hc hd he, (p_facts a ha).2.2.2.2, (p_facts b hb).2.2.2.2, (p_facts c hc).2.2.2.2, (p_facts d hd).2.2.2.2, (p_facts e he).2.2.2.2] at hx
  rw [hs]
  exact by5_sum _ _ _ _ _ (bits8_le a) (bits8_le b) (bits8_le c) (bits8_le d) (bits8_le e) x y z hx hy hz
end Go.Proofs.Ytlifhoajamnehaa
