/- TileM: contracts of functions, and lemmas, for this seat. Conditions: as each states. -/
import Derived.Test.YtlifhoajamnehaaMathB
import Derived.Test.YtlifhoajamnehaaBits
import Derived.Test.YtlifhoajamnehaaFitM
import Derived.Test.YtlifhoajamnehaaInkM
set_option linter.unusedVariables false
set_option maxRecDepth 100000
set_option maxHeartbeats 1000000
namespace Go.Proofs.Ytlifhoajamnehaa
open Go Go.RowKit
/-! tilings, and stamps apart -/
/-- is a set part of another? -/
def prt (a z : Nat) : Bool := decide (a &&& cmp z = 0)
/-- have two sets no cell in common? -/
def ap2 (a b : Nat) : Bool := decide (a &&& b = 0)
/-- what is left of z without a -/
def mns (z a : Nat) : Nat := z &&& cmp a
theorem mns_lt {z : Nat} (a : Nat) (h : z < 68719476736) : mns z a < 68719476736 := and36 _ h
theorem testBit_mns (z a k : Nat) (hk : k < 36) : (mns z a).testBit k = (z.testBit k && !a.testBit k) := by unfold mns; rw [Nat.testBit_and, testBit_cmp a k hk]
theorem prt_iff {a : Nat} (z : Nat) (ha : a < 68719476736) : prt a z = true ↔ ∀ k, k < 36 → a.testBit k = true → z.testBit k = true := by
  unfold prt
  rw [decide_eq_true_eq]
  constructor
  · intro h k hk hb
    have := congrArg (fun t => t.testBit k) h
    simp only [Nat.testBit_and, testBit_cmp z k hk, Nat.zero_testBit, hb, Bool.true_and] at this
    simpa using this
  · intro h
    refine ext36 (and36 _ ha) (by omega) fun k hk => ?_
    rw [Nat.testBit_and, testBit_cmp z k hk, Nat.zero_testBit]
    cases hb : a.testBit k
    · rfl
    · rw [h k hk hb]; rfl
theorem ap2_iff {a : Nat} (b : Nat) (ha : a < 68719476736) : ap2 a b = true ↔ ∀ k, k < 36 → a.testBit k = true → b.testBit k = false := by
  unfold ap2
  rw [decide_eq_true_eq]
  constructor
  · intro h k hk hb
    have := congrArg (fun t => t.testBit k) h
    simpa only [Nat.testBit_and, Nat.zero_testBit, hb, Bool.true_and] using this
  · intro h
    refine ext36 (and36 _ ha) (by omega) fun k hk => ?_
    rw [Nat.testBit_and, Nat.zero_testBit]
    cases hb : a.testBit k
    · rfl
    · rw [h k hk hb]; rfl
theorem ap2_comm (a b : Nat) : ap2 a b = ap2 b a := by unfold ap2; rw [Nat.and_comm]
theorem ap2_self {a : Nat} (h : a ≠ 0) : ap2 a a = false := by unfold ap2; rw [Nat.and_self]; exact decide_eq_false h
theorem ap2_bit {a b q : Nat} (ha : a < 68719476736) (h : a.testBit q = true) (k : b.testBit q = true) : ap2 a b = false := by
  rw [← Bool.not_eq_true, ap2_iff b ha]
  intro e
  have := e q (bit36 ha h) h
  rw [k] at this; cases this
theorem prt_mns {a : Nat} (z b : Nat) (ha : a < 68719476736) : prt a (mns z b) = (prt a z && ap2 a b) := by
  rw [Bool.eq_iff_iff, Bool.and_eq_true, prt_iff _ ha, prt_iff _ ha, ap2_iff _ ha]
  constructor
  · intro h
    refine ⟨fun k hk hb => ?_, fun k hk hb => ?_⟩
    · have := h k hk hb
      rw [testBit_mns z b k hk, Bool.and_eq_true] at this
      exact this.1
    · have := h k hk hb
      rw [testBit_mns z b k hk, Bool.and_eq_true] at this
      simpa using this.2
  · intro h k hk hb
    rw [testBit_mns z b k hk, h.1 k hk hb, h.2 k hk hb]; rfl
theorem mns_comm (z a b : Nat) : mns (mns z a) b = mns (mns z b) a := by unfold mns; rw [Nat.and_assoc, Nat.and_assoc, Nat.and_comm (cmp a)]
theorem prt_0 {a : Nat} (ha : a < 68719476736) (h : a ≠ 0) : prt a 0 = false := by
  rw [← Bool.not_eq_true, prt_iff _ ha]
  intro e
  refine h (ext36 ha (by omega) fun k hk => ?_)
  cases hb : a.testBit k
  · rw [Nat.zero_testBit]
  · have := e k hk hb
    rw [Nat.zero_testBit] at this; cases this
theorem bit_ne {z q : Nat} (h : z.testBit q = true) : z ≠ 0 := fun e => by rw [e, Nat.zero_testBit] at h; cases h
theorem cnt_mns {a : Nat} (z : Nat) (ha : a < 68719476736) (h : prt a z = true) : cnt (mns z a) + cnt a = cnt z := by
  have key : ∀ k, k ≤ 36 → cntN (mns z a) k + cntN a k = cntN z k := by
    intro k
    induction k with
    | zero => intro _; rfl
    | succ k ih =>
      intro hk
      have i := ih (by omega)
      rw [cntN, cntN, cntN, testBit_mns z a k (by omega)]
      cases hb : a.testBit k
      · cases hz : z.testBit k <;> simp <;> omega
      · rw [(prt_iff z ha).1 h k (by omega) hb]; simp; omega
  exact key 36 (Nat.le_refl _)
theorem cnt_pos {a : Nat} (ha : a < 68719476736) (h : a ≠ 0) : 0 < cnt a := by
  rcases Nat.eq_zero_or_pos (cnt a) with e | e
  · have h0 : lst a 36 = [] := List.eq_nil_of_length_eq_zero (by rw [lst_length]; exact e)
    refine absurd (ext36 ha (by omega) fun k hk => ?_) h
    rw [Nat.zero_testBit]
    cases hb : a.testBit k
    · rfl
    · have : k ∈ lst a 36 := mem_lst.2 ⟨hk, hb⟩
      rw [h0] at this; cases this
  · exact e
/-- xor takes a part away -/
theorem xor_mns {a z : Nat} (ha : a < 68719476736) (hz : z < 68719476736) (h : prt a z = true) : z ^^^ a = mns z a :=
  ext36 (xor36 hz ha) (mns_lt _ hz) fun k hk => by
    rw [Nat.testBit_xor, testBit_mns z a k hk]
    cases hb : a.testBit k
    · cases z.testBit k <;> rfl
    · rw [(prt_iff z ha).1 h k hk hb]; rfl
/-- how many ways there are to take stamps of a list, all apart, that make up z -/
def cT (f : Nat → Nat) : List Nat → Nat → Nat
  | [], z => if z = 0 then 1 else 0
  | k :: o, z => cT f o z + (if prt (f k) z then cT f o (mns z (f k)) else 0)
/-- .. of which the one at a cell q is told first -/
def sT (f : Nat → Nat) (q : Nat) (o : List Nat) (z : Nat) : List Nat → Nat
  | [] => 0
  | j :: l => (if (f j).testBit q && prt (f j) z then cT f o (mns z (f j)) else 0) + sT f q o z l
theorem sT_cons (f : Nat → Nat) (hf : ∀ k, f k < 68719476736) (q k : Nat) (o : List Nat) (z : Nat) : ∀ l, sT f q (k :: o) z l = sT f q o z l + (if prt (f k) z && !(f k).testBit q then sT f q o (mns z (f k)) l else 0)
  | [] => by unfold sT; split <;> rfl
  | j :: l => by
    rw [sT, sT, sT, sT_cons f hf q k o z l, cT, prt_mns z (f j) (hf k), prt_mns z (f k) (hf j), ap2_comm (f k) (f j), mns_comm z (f k) (f j)]
    have hx : (f j).testBit q = true → (f k).testBit q = true → ap2 (f j) (f k) = false := ap2_bit (hf j)
    cases h1 : (f j).testBit q <;> cases h2 : prt (f j) z <;> cases h3 : prt (f k) z <;> cases h4 : (f k).testBit q <;> cases h5 : ap2 (f j) (f k) <;> simp [h1, h4, h5] at hx ⊢ <;> omega
theorem cT_first (f : Nat → Nat) (hf : ∀ k, f k < 68719476736) (h0 : ∀ k, f k ≠ 0) (q : Nat) (hq : q < 36) : ∀ (o : List Nat) (z : Nat), z.testBit q = true → cT f o z = sT f q o z o
  | [], z, hz => by rw [cT, if_neg (bit_ne hz)]; rfl
  | k :: o, z, hz => by
    rw [cT, sT, cT, sT_cons f hf q k o z o, cT_first f hf h0 q hq o z hz, prt_mns z (f k) (hf k), ap2_self (h0 k)]
    cases h4 : (f k).testBit q
    · have e := cT_first f hf h0 q hq o (mns z (f k)) (by rw [testBit_mns z _ q hq, hz, h4]; rfl)
      rw [e]
      cases h3 : prt (f k) z <;> simp
    · cases h3 : prt (f k) z <;> simp; omega
theorem cT_0 (f : Nat → Nat) (hf : ∀ k, f k < 68719476736) (h0 : ∀ k, f k ≠ 0) : ∀ o, cT f o 0 = 1
  | [] => rfl
  | k :: o => by rw [cT, prt_0 (hf k) (h0 k), cT_0 f hf h0 o]; simp
/-- how many stamps of a list, all apart, there are at most in z -/
def aT (f : Nat → Nat) : List Nat → Nat → Nat
  | [], _ => 0
  | k :: o, z => max (aT f o z) (if prt (f k) z then 1 + aT f o (mns z (f k)) else 0)
def mT (f : Nat → Nat) (q : Nat) (o : List Nat) (z : Nat) : List Nat → Nat
  | [] => 0
  | j :: l => max (if (f j).testBit q && prt (f j) z then 1 + aT f o (mns z (f j)) else 0) (mT f q o z l)
theorem mT_cons (f : Nat → Nat) (hf : ∀ k, f k < 68719476736) (q k : Nat) (o : List Nat) (z : Nat) : ∀ l, mT f q (k :: o) z l = max (mT f q o z l) (if prt (f k) z && !(f k).testBit q && decide (0 < mT f q o (mns z (f k)) l) then 1 + mT f q o (mns z (f k)) l else 0)
  | [] => by simp [mT]
  | j :: l => by
    rw [mT, mT, mT, mT_cons f hf q k o z l, aT, prt_mns z (f j) (hf k), prt_mns z (f k) (hf j), ap2_comm (f k) (f j), mns_comm z (f k) (f j)]
    have hx : (f j).testBit q = true → (f k).testBit q = true → ap2 (f j) (f k) = false := ap2_bit (hf j)
    generalize mT f q o (mns z (f k)) l = A
    generalize mT f q o z l = B
    generalize aT f o (mns z (f j)) = C
    generalize aT f o (mns (mns z (f j)) (f k)) = D
    cases h1 : (f j).testBit q <;> cases h2 : prt (f j) z <;> cases h3 : prt (f k) z <;> cases h4 : (f k).testBit q <;> cases h5 : ap2 (f j) (f k) <;> simp [h1, h4, h5] at hx ⊢ <;> (repeat' split) <;> omega
theorem pow_bit (q : Nat) : (2 ^ q).testBit q = true := by rw [Nat.testBit_two_pow]; simp
theorem ap2_pow {a : Nat} (q : Nat) (hq : q < 36) (ha : a < 68719476736) : ap2 a (2 ^ q) = !a.testBit q := by
  cases hb : a.testBit q
  · refine (ap2_iff _ ha).2 fun k hk h => ?_
    rw [Nat.testBit_two_pow]
    by_cases e : q = k
    · subst e; rw [hb] at h; cases h
    · exact decide_eq_false e
  · exact ap2_bit ha hb (pow_bit q)
theorem aT_first (f : Nat → Nat) (hf : ∀ k, f k < 68719476736) (h0 : ∀ k, f k ≠ 0) (q : Nat) (hq : q < 36) : ∀ (o : List Nat) (z : Nat), z.testBit q = true → aT f o z = max (aT f o (mns z (2 ^ q))) (mT f q o z o)
  | [], z, hz => by simp [aT, mT]
  | k :: o, z, hz => by
    rw [aT, aT, mT, aT, mT_cons f hf q k o z o, prt_mns z (f k) (hf k), ap2_self (h0 k), prt_mns z (2 ^ q) (hf k), ap2_pow q hq (hf k), mns_comm z (2 ^ q) (f k)]
    have i1 := aT_first f hf h0 q hq o z hz
    cases h4 : (f k).testBit q
    · have i2 := aT_first f hf h0 q hq o (mns z (f k)) (by rw [testBit_mns z _ q hq, hz, h4]; rfl)
      cases h3 : prt (f k) z <;> simp <;> (repeat' split) <;> omega
    · cases h3 : prt (f k) z <;> simp <;> (repeat' split) <;> omega
theorem aT_0 (f : Nat → Nat) (hf : ∀ k, f k < 68719476736) (h0 : ∀ k, f k ≠ 0) : ∀ o, aT f o 0 = 0
  | [] => rfl
  | k :: o => by rw [aT, prt_0 (hf k) (h0 k), aT_0 f hf h0 o]; simp
theorem aT_le (f : Nat → Nat) : ∀ (o : List Nat) (z : Nat), aT f o z ≤ o.length
  | [], _ => Nat.le_refl _
  | k :: o, z => by
    have h1 := aT_le f o z
    have h2 := aT_le f o (mns z (f k))
    rw [aT, List.length_cons]
    split <;> omega
theorem cT_le (f : Nat → Nat) : ∀ (o : List Nat) (z : Nat), cT f o z ≤ 2 ^ o.length
  | [], z => by unfold cT; split <;> simp
  | k :: o, z => by
    have h1 := cT_le f o z
    have h2 := cT_le f o (mns z (f k))
    rw [cT, List.length_cons, Nat.pow_succ]
    split <;> omega
/-! shifted stamps -/
/-- a stamp pressed at the cell with a number -/
def pr6 (m k : Nat) : Nat := sh m (k % 6) (k / 6)
theorem pr6_lt (m k : Nat) : pr6 m k < 68719476736 := sh_lt _ _ _
theorem sh_big (m x y : Nat) (h : 6 ≤ y) : sh m x y = sh m x 0 := by
  unfold sh
  refine mkN_congr 36 fun j _ => ?_
  have : src x y j = src x 0 j := by unfold src; omega
  rw [this]
theorem pr6_ne {m : Nat} (hm : m < 68719476736) (h : m ≠ 0) (k : Nat) : pr6 m k ≠ 0 := fun e => by
  have h2 := cnt_pos hm h
  have h3 : cnt 0 = 0 := by decide
  unfold pr6 at e
  rcases Nat.lt_or_ge (k / 6) 6 with h4 | h4
  · have h1 := cnt_sh m (k % 6) (k / 6) (by omega) h4
    rw [e] at h1
    omega
  · rw [sh_big m _ _ h4] at e
    have h1 := cnt_sh m (k % 6) 0 (by omega) (by omega)
    rw [e] at h1
    omega
end Go.Proofs.Ytlifhoajamnehaa
