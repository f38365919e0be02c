/- MathB: contracts of functions, and lemmas, for this seat. Conditions: as each states. -/
set_option linter.unusedVariables false
set_option maxRecDepth 100000
set_option maxHeartbeats 1000000
namespace Go.Proofs.Ytlifhoajamnehaa
/-! orders of vectors, choices, kept sets -/
def okO (x y n : Nat) : Bool := decide (n * x % 6 = 0) && decide (n * y % 6 = 0)
/-- how often a vector is made until it is none -/
def ordN (x y : Nat) : Nat := if okO x y 1 then 1 else if okO x y 2 then 2 else if okO x y 3 then 3 else 6
theorem ord_facts1 : ∀ x, x < 6 → ∀ y, y < 6 → okO x y (ordN x y) = true ∧ 1 ≤ ordN x y ∧ ordN x y ≤ 6 := by decide +kernel
theorem ord_facts2 : ∀ x, x < 6 → ∀ y, y < 6 → 6 % ordN x y = 0 ∧ 36 % ordN x y = 0 := by decide +kernel
theorem ord_facts3 : ∀ x, x < 6 → ∀ y, y < 6 → ∀ m, m < 7 → (decide (1 ≤ m) && decide (m < ordN x y) && okO x y m) = false := by decide +kernel
theorem ord_facts (x : Nat) (hx : x < 6) (y : Nat) (hy : y < 6) : okO x y (ordN x y) = true ∧ 1 ≤ ordN x y ∧ ordN x y ≤ 6 ∧ 6 % ordN x y = 0 ∧ 36 % ordN x y = 0 ∧ ∀ m, m < 7 → 1 ≤ m → m < ordN x y → okO x y m = false := by
  obtain ⟨a, b, c⟩ := ord_facts1 x hx y hy
  obtain ⟨d, e⟩ := ord_facts2 x hx y hy
  refine ⟨a, b, c, d, e, fun m h1 h2 h3 => ?_⟩
  have := ord_facts3 x hx y hy m h1
  simpa [h2, h3] using this
def chz (n : Nat) : Nat → Nat
  | 0 => 1
  | k + 1 => chz n k * (n - k) / (k + 1)
theorem chz_le : ∀ n, n < 37 → ∀ k, k < 37 → chz n k ≤ 10000000000 := by decide +kernel
def keptN (x y size : Nat) : Nat := if size % ordN x y = 0 then chz (36 / ordN x y) (size / ordN x y) else 0
theorem kept_le (x y size : Nat) (hx : x < 6) (hy : y < 6) (hs : size < 37) : keptN x y size ≤ 10000000000 := by
  unfold keptN
  split
  · exact chz_le _ (Nat.lt_of_le_of_lt (Nat.div_le_self _ _) (by omega)) _ (Nat.lt_of_le_of_lt (Nat.div_le_self _ _) hs)
  · omega
def sumK (size : Nat) : Nat → Nat
  | 0 => 0
  | k + 1 => sumK size k + keptN (k / 6) (k % 6) size
theorem sumK_le (size k : Nat) (hs : size < 37) (hk : k ≤ 36) : sumK size k ≤ k * 10000000000 := by
  induction k with
  | zero => simp [sumK]
  | succ k ih =>
    have h1 := ih (by omega)
    have h2 := kept_le (k / 6) (k % 6) size (by omega) (by omega) hs
    rw [sumK]
    omega
theorem okO_int (x y k : Nat) : okO x y k = (decide ((k : Int) * (x : Int) % 6 = 0) && decide ((k : Int) * (y : Int) % 6 = 0)) := by
  unfold okO
  have e1 : (k * x % 6 = 0) ↔ ((k : Int) * (x : Int) % 6 = 0) := by rw [← Int.natCast_mul]; omega
  have e2 : (k * y % 6 = 0) ↔ ((k : Int) * (y : Int) % 6 = 0) := by rw [← Int.natCast_mul]; omega
  simp only [e1, e2]
/-- the first k rows are new -/
def mixG (g h : Nat → Int) (k j : Nat) : Int := if j < k then g j else h j
theorem mixG_at (g h : Nat → Int) (k : Nat) : mixG g h k k = h k := if_neg (Nat.lt_irrefl k)
theorem mixG_0 (g h : Nat → Int) (j : Nat) : h j = mixG g h 0 j := (if_neg (Nat.not_lt_zero j)).symm
theorem mixG_step (g h : Nat → Int) (k j : Nat) (v : Int) (hv : v = g k) : (if j = k then v else mixG g h k j) = mixG g h (k + 1) j := by
  unfold mixG
  by_cases e : j = k
  · rw [if_pos e, if_pos (by omega), e]; exact hv
  · rw [if_neg e]
    by_cases h1 : j < k
    · rw [if_pos h1, if_pos (by omega)]
    · rw [if_neg h1, if_neg (by omega)]
theorem mixG_6 (g h : Nat → Int) (j : Nat) (hj : j < 6) : mixG g h 6 j = g j := if_pos hj
end Go.Proofs.Ytlifhoajamnehaa
