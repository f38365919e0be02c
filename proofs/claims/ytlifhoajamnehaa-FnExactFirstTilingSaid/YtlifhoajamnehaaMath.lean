/- Math: contracts of functions, and lemmas, for this seat. Conditions: as each states. -/
set_option linter.unusedVariables false
set_option maxRecDepth 100000
set_option maxHeartbeats 1000000
namespace Go.Proofs.Ytlifhoajamnehaa
/-! plain mathematics: sets of 36 cells as numbers -/
/-- the number whose bits below m are told by f -/
def mkN (f : Nat → Bool) : Nat → Nat
  | 0 => 0
  | k + 1 => if f k = true then mkN f k ||| 2 ^ k else mkN f k

theorem testBit_mkN (f : Nat → Bool) (m j : Nat) : (mkN f m).testBit j = (decide (j < m) && f j) := by
  induction m with
  | zero => simp [mkN]
  | succ k ih =>
    rw [mkN]
    by_cases hj : j = k
    · subst hj
      cases h : f j <;> simp [h, Nat.testBit_or, ih]
    · have e : decide (j < k + 1) = decide (j < k) := by simp; omega
      have e2 : decide (k = j) = false := by simp; omega
      cases h : f k <;> simp [Nat.testBit_or, ih, Nat.testBit_two_pow, e, e2]

theorem mkN_lt (f : Nat → Bool) (m : Nat) : mkN f m < 2 ^ m := by
  induction m with
  | zero => simp [mkN]
  | succ k ih =>
    rw [mkN]
    have h1 : 2 ^ k < 2 ^ (k + 1) := Nat.pow_lt_pow_right (by omega) (by omega)
    split
    · exact Nat.or_lt_two_pow (by omega) h1
    · omega

theorem mk36_lt (f : Nat → Bool) : mkN f 36 < 68719476736 := mkN_lt f 36

theorem bit_ge {n m j : Nat} (h : n < 2 ^ m) (hj : m ≤ j) : n.testBit j = false :=
  Nat.testBit_lt_two_pow (Nat.lt_of_lt_of_le h (Nat.pow_le_pow_right (by omega) hj))

theorem bit36 {n j : Nat} (h : n < 68719476736) (hj : n.testBit j = true) : j < 36 := by
  rcases Nat.lt_or_ge j 36 with h1 | h1
  · exact h1
  · rw [bit_ge (m := 36) h h1] at hj; cases hj

theorem ext36 {a b : Nat} (ha : a < 68719476736) (hb : b < 68719476736) (h : ∀ k, k < 36 → a.testBit k = b.testBit k) : a = b := by
  refine Nat.eq_of_testBit_eq fun i => ?_
  rcases Nat.lt_or_ge i 36 with h1 | h1
  · exact h i h1
  · rw [bit_ge (m := 36) ha h1, bit_ge (m := 36) hb h1]

theorem mkN_congr {f g : Nat → Bool} (m : Nat) (h : ∀ k, k < m → f k = g k) : mkN f m = mkN g m := by
  induction m with
  | zero => rfl
  | succ k ih => rw [mkN, mkN, ih fun j hj => h j (by omega), h k (by omega)]

theorem mkN_self {n : Nat} (h : n < 68719476736) : mkN n.testBit 36 = n :=
  ext36 (mk36_lt _) h fun k hk => by rw [testBit_mkN]; simp [hk]

theorem or36 {a b : Nat} (ha : a < 68719476736) (hb : b < 68719476736) : a ||| b < 68719476736 := Nat.or_lt_two_pow (n := 36) ha hb
theorem and36 {a : Nat} (b : Nat) (ha : a < 68719476736) : a &&& b < 68719476736 := Nat.lt_of_le_of_lt Nat.and_le_left ha
theorem xor36 {a b : Nat} (ha : a < 68719476736) (hb : b < 68719476736) : a ^^^ b < 68719476736 := Nat.xor_lt_two_pow (n := 36) ha hb
theorem pow36 {k : Nat} (h : k < 36) : 2 ^ k < 68719476736 := Nat.pow_lt_pow_right (m := k) (n := 36) (by omega) h

/-! rows -/
/-- the row y of a set -/
def rowN (n y : Nat) : Nat := n / 2 ^ (6 * y) % 64
/-- the row y, as a number of the program -/
@[irreducible] def rw (n y : Nat) : Int := (rowN n y : Nat)
theorem rowN_lt (n y : Nat) : rowN n y < 64 := Nat.mod_lt _ (by omega)
theorem rw_0 (n y : Nat) : 0 ≤ rw n y := by unfold rw; exact Int.natCast_nonneg _
theorem rw_63 (n y : Nat) : rw n y ≤ 63 := by have := rowN_lt n y; unfold rw; omega
theorem testBit_rowN (n y x : Nat) : (rowN n y).testBit x = (decide (x < 6) && n.testBit (6 * y + x)) := by
  unfold rowN
  rw [show (64 : Nat) = 2 ^ 6 from rfl, Nat.testBit_mod_two_pow, Nat.testBit_div_two_pow]
  rw [Nat.add_comm]

theorem row_ext {a b : Nat} (ha : a < 64) (hb : b < 64) (h : ∀ x, x < 6 → a.testBit x = b.testBit x) : a = b := by
  refine Nat.eq_of_testBit_eq fun i => ?_
  rcases Nat.lt_or_ge i 6 with h1 | h1
  · exact h i h1
  · rw [bit_ge (m := 6) ha h1, bit_ge (m := 6) hb h1]

/-- rows put together -/
def pkN (r : Nat → Nat) : Nat → Nat
  | 0 => 0
  | k + 1 => pkN r k ||| r k * 2 ^ (6 * k)

theorem testBit_mul_pow (a i j : Nat) : (a * 2 ^ i).testBit j = (decide (i ≤ j) && a.testBit (j - i)) := by
  rw [← Nat.shiftLeft_eq, Nat.testBit_shiftLeft]

theorem testBit_pkN (r : Nat → Nat) (hr : ∀ k, r k < 64) (m j : Nat) : (pkN r m).testBit j = (decide (j < 6 * m) && (r (j / 6)).testBit (j % 6)) := by
  induction m with
  | zero => simp [pkN]
  | succ k ih =>
    rw [pkN, Nat.testBit_or, ih, testBit_mul_pow]
    rcases Nat.lt_or_ge j (6 * k) with h | h
    · have e1 : decide (j < 6 * k) = true := by simpa using h
      have e2 : decide (6 * k ≤ j) = false := by simpa using h
      have e3 : decide (j < 6 * (k + 1)) = true := by simp; omega
      rw [e1, e2, e3]; simp
    · have e1 : decide (j < 6 * k) = false := by simpa using h
      have e2 : decide (6 * k ≤ j) = true := by simpa using h
      rw [e1, e2]
      rcases Nat.lt_or_ge j (6 * (k + 1)) with h2 | h2
      · have e3 : decide (j < 6 * (k + 1)) = true := by simpa using h2
        have e4 : j / 6 = k := by omega
        have e5 : j - 6 * k = j % 6 := by omega
        rw [e3, e4, e5]; simp
      · have e3 : decide (j < 6 * (k + 1)) = false := by simpa using h2
        rw [e3, bit_ge (m := 6) (hr k) (by omega)]; simp

theorem pkN_lt (r : Nat → Nat) (hr : ∀ k, r k < 64) (m : Nat) : pkN r m < 2 ^ (6 * m) := by
  induction m with
  | zero => simp [pkN]
  | succ k ih =>
    rw [pkN]
    have h1 : 2 ^ (6 * k) < 2 ^ (6 * (k + 1)) := Nat.pow_lt_pow_right (by omega) (by omega)
    refine Nat.or_lt_two_pow (by omega) ?_
    have := hr k
    have e : 2 ^ (6 * (k + 1)) = 64 * 2 ^ (6 * k) := by rw [show 6 * (k + 1) = 6 * k + 6 by omega, Nat.pow_add]; omega
    rw [e]
    exact Nat.mul_lt_mul_of_pos_right this (Nat.two_pow_pos _)

theorem rowN_pkN (r : Nat → Nat) (hr : ∀ k, r k < 64) (y : Nat) (hy : y < 6) : rowN (pkN r 6) y = r y := by
  refine row_ext (rowN_lt _ _) (hr y) fun x hx => ?_
  rw [testBit_rowN, testBit_pkN r hr]
  have e1 : (6 * y + x) / 6 = y := by omega
  have e2 : (6 * y + x) % 6 = x := by omega
  have e3 : 6 * y + x < 6 * 6 := by omega
  simp [e1, e2, e3, hx]

theorem pkN_rowN {n : Nat} (h : n < 68719476736) : pkN (rowN n) 6 = n := by
  refine ext36 (pkN_lt _ (rowN_lt n) 6) h fun k hk => ?_
  rw [testBit_pkN _ (rowN_lt n), testBit_rowN]
  have e1 : 6 * (k / 6) + k % 6 = k := by omega
  have e2 : k % 6 < 6 := by omega
  simp [e1, e2, hk]

theorem pkN_congr {r s : Nat → Nat} (m : Nat) (h : ∀ k, k < m → r k = s k) : pkN r m = pkN s m := by
  induction m with
  | zero => rfl
  | succ k ih => rw [pkN, pkN, ih fun j hj => h j (by omega), h k (by omega)]

/-- a valid sheet's rows -/
def okR (r : Nat → Int) : Prop := ∀ k, k < 6 → 0 ≤ r k ∧ r k ≤ 63

/-- a valid sheet is that of a set -/
theorem okR_set {r : Nat → Int} (h : okR r) : ∃ n, n < 68719476736 ∧ ∀ k, k < 6 → r k = rw n k := by
  let s : Nat → Nat := fun k => if k < 6 then (r k).toNat else 0
  have hs : ∀ k, s k < 64 := fun k => by
    show (if k < 6 then (r k).toNat else 0) < 64
    split
    · rename_i hk; have := h k hk; omega
    · omega
  refine ⟨pkN s 6, pkN_lt s hs 6, fun k hk => ?_⟩
  unfold rw
  rw [rowN_pkN s hs k hk]
  show r k = (((if k < 6 then (r k).toNat else 0 : Nat)) : Int)
  rw [if_pos hk]
  have := h k hk
  omega

theorem eq_of_rows {a b : Nat} (ha : a < 68719476736) (hb : b < 68719476736) (h : ∀ y, y < 6 → rowN a y = rowN b y) : a = b := by
  rw [← pkN_rowN ha, ← pkN_rowN hb]
  exact pkN_congr 6 h

/-! a set whose cells go to others -/
def mvN (n : Nat) (t : Nat → Nat) : Nat → Nat
  | 0 => 0
  | k + 1 => if n.testBit k = true then mvN n t k ||| 2 ^ t k else mvN n t k

theorem testBit_mvN (n : Nat) (t : Nat → Nat) (m j : Nat) : (mvN n t m).testBit j = true ↔ ∃ k, k < m ∧ n.testBit k = true ∧ t k = j := by
  induction m with
  | zero => simp [mvN]
  | succ i ih =>
    rw [mvN]
    by_cases hb : n.testBit i = true
    · rw [if_pos hb, Nat.testBit_or, Bool.or_eq_true, ih, Nat.testBit_two_pow]
      constructor
      · rintro (⟨k, h1, h2, h3⟩ | h)
        · exact ⟨k, by omega, h2, h3⟩
        · exact ⟨i, by omega, hb, by simpa using h⟩
      · rintro ⟨k, h1, h2, h3⟩
        by_cases e : k = i
        · subst e; exact .inr (by simpa using h3)
        · exact .inl ⟨k, by omega, h2, h3⟩
    · rw [if_neg hb, ih]
      constructor
      · rintro ⟨k, h1, h2, h3⟩; exact ⟨k, by omega, h2, h3⟩
      · rintro ⟨k, h1, h2, h3⟩
        by_cases e : k = i
        · subst e; exact absurd h2 hb
        · exact ⟨k, by omega, h2, h3⟩

theorem mvN_lt (n : Nat) (t : Nat → Nat) (m : Nat) (ht : ∀ k, k < m → t k < 36) : mvN n t m < 68719476736 := by
  induction m with
  | zero => simp [mvN]
  | succ i ih =>
    rw [mvN]
    split
    · exact or36 (ih fun k hk => ht k (by omega)) (pow36 (ht i (by omega)))
    · exact ih fun k hk => ht k (by omega)

/-! shifts -/
/-- from where a cell of a shifted set comes -/
def src (dx dy j : Nat) : Nat := (j % 6 + (6 - dx)) % 6 + 6 * ((j / 6 + (6 - dy)) % 6)
/-- where a cell goes -/
def tgt (dx dy k : Nat) : Nat := (k % 6 + dx) % 6 + 6 * ((k / 6 + dy) % 6)
theorem src_lt (dx dy j : Nat) : src dx dy j < 36 := by unfold src; omega
theorem tgt_lt (dx dy j : Nat) : tgt dx dy j < 36 := by unfold tgt; omega
theorem tgt_src {dx dy j : Nat} (hx : dx < 6) (hy : dy < 6) (hj : j < 36) : tgt dx dy (src dx dy j) = j := by unfold tgt src; omega
theorem src_tgt {dx dy j : Nat} (hx : dx < 6) (hy : dy < 6) (hj : j < 36) : src dx dy (tgt dx dy j) = j := by unfold tgt src; omega

/-- a shifted set -/
def sh (n dx dy : Nat) : Nat := mkN (fun j => n.testBit (src dx dy j)) 36
theorem sh_lt (n dx dy : Nat) : sh n dx dy < 68719476736 := mk36_lt _
theorem testBit_sh (n dx dy j : Nat) (hj : j < 36) : (sh n dx dy).testBit j = n.testBit (src dx dy j) := by
  unfold sh; rw [testBit_mkN]; simp [hj]

theorem mvN_sh (n dx dy : Nat) (hx : dx < 6) (hy : dy < 6) : mvN n (tgt dx dy) 36 = sh n dx dy := by
  refine ext36 (mvN_lt _ _ _ fun k _ => tgt_lt dx dy k) (sh_lt _ _ _) fun j hj => ?_
  rw [testBit_sh _ _ _ _ hj, Bool.eq_iff_iff, testBit_mvN]
  constructor
  · rintro ⟨k, h1, h2, h3⟩; rw [← h3, src_tgt hx hy h1]; exact h2
  · intro h; exact ⟨_, src_lt dx dy j, h, tgt_src hx hy hj⟩

/-! numbers of cells -/
def cntN (n : Nat) : Nat → Nat
  | 0 => 0
  | k + 1 => cntN n k + (if n.testBit k = true then 1 else 0)
/-- how many cells are black -/
def cnt (n : Nat) : Nat := cntN n 36
theorem cntN_le (n m : Nat) : cntN n m ≤ m := by
  induction m with
  | zero => simp [cntN]
  | succ k ih => rw [cntN]; split <;> omega
theorem cnt_le (n : Nat) : cnt n ≤ 36 := cntN_le n 36

/-- the numbers of all black cells -/
def lst (n m : Nat) : List Nat := (List.range m).filter n.testBit
theorem mem_lst {n m k : Nat} : k ∈ lst n m ↔ k < m ∧ n.testBit k = true := by simp [lst]
theorem lst_succ (n k : Nat) : lst n (k + 1) = lst n k ++ (if n.testBit k = true then [k] else []) := by
  unfold lst
  rw [List.range_succ, List.filter_append]
  by_cases h : n.testBit k = true <;> simp [h]
theorem lst_length (n m : Nat) : (lst n m).length = cntN n m := by
  induction m with
  | zero => simp [lst, cntN]
  | succ k ih => rw [lst_succ, List.length_append, ih, cntN]; split <;> simp
end Go.Proofs.Ytlifhoajamnehaa
