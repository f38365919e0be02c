/- SprM: contracts of functions, and lemmas, for this seat. Conditions: as each states. -/
import Derived.Test.YtadnfocbfabjnabSpread
import Derived.Test.YtadnfocbfabjnabFitM
set_option linter.unusedVariables false
set_option maxRecDepth 100000
set_option maxHeartbeats 1000000
namespace Go.Proofs.Ytadnfocbfabjnab
open Go Go.RowKit
/-! spreading and shrinking, as sets -/
/-- the cell that a cell leads to by a vector (a number too), and its opposite -/
def sub6 (j k : Nat) : Nat := src (k % 6) (k / 6) j
def neg6 (k : Nat) : Nat := sub6 0 k
def add6 (j k : Nat) : Nat := tgt (k % 6) (k / 6) j
theorem sub6_lt (j k : Nat) : sub6 j k < 36 := src_lt _ _ _
theorem neg6_lt (k : Nat) : neg6 k < 36 := src_lt _ _ _
theorem add6_lt (j k : Nat) : add6 j k < 36 := tgt_lt _ _ _
theorem sub6_eq (j k : Nat) : sub6 j k = (j % 6 + (6 - k % 6)) % 6 + 6 * ((j / 6 + (6 - k / 6)) % 6) := rfl
theorem add6_eq (j k : Nat) : add6 j k = (j % 6 + k % 6) % 6 + 6 * ((j / 6 + k / 6) % 6) := rfl
def sx (a b : Nat) : Nat := (a + (6 - b)) % 6
def ax (a b : Nat) : Nat := (a + b) % 6
theorem sx_lt (a b : Nat) : sx a b < 6 := Nat.mod_lt _ (by decide)
theorem ax_lt (a b : Nat) : ax a b < 6 := Nat.mod_lt _ (by decide)
theorem pk6 (x y : Nat) (hx : x < 6) : (x + 6 * y) % 6 = x ∧ (x + 6 * y) / 6 = y := by omega
theorem sub_x (j k : Nat) : sub6 j k % 6 = sx (j % 6) (k % 6) := (pk6 _ _ (sx_lt _ _)).1
theorem sub_y (j k : Nat) : sub6 j k / 6 = sx (j / 6) (k / 6) := (pk6 _ _ (sx_lt _ _)).2
theorem add_x (j k : Nat) : add6 j k % 6 = ax (j % 6) (k % 6) := (pk6 _ _ (ax_lt _ _)).1
theorem add_y (j k : Nat) : add6 j k / 6 = ax (j / 6) (k / 6) := (pk6 _ _ (ax_lt _ _)).2
theorem ext6 {i j : Nat} (hx : i % 6 = j % 6) (hy : i / 6 = j / 6) : i = j := by omega
theorem q6a : ∀ a, a < 6 → ∀ b, b < 6 → sx (ax a b) b = a ∧ ax (sx a b) b = a ∧ sx a (sx a b) = b ∧ sx 0 (sx a b) = sx b a ∧ sx 0 (sx 0 a) = a ∧ sx a 0 = a ∧ sx a a = 0 ∧ ax 0 a = a := by decide
theorem q6b : ∀ a, a < 6 → ∀ b, b < 6 → ∀ c, c < 6 → sx (sx a b) c = sx (sx a c) b ∧ sx (sx a b) c = sx a (ax b c) ∧ ax (ax a b) c = ax a (ax b c) := by decide
theorem lt6x (k : Nat) : k % 6 < 6 := Nat.mod_lt _ (by decide)
theorem lt6y {k : Nat} (h : k < 36) : k / 6 < 6 := Nat.div_lt_of_lt_mul h
theorem sub_add {j k : Nat} (hj : j < 36) (hk : k < 36) : sub6 (add6 j k) k = j := ext6 (by rw [sub_x, add_x]; exact (q6a _ (lt6x j) _ (lt6x k)).1) (by rw [sub_y, add_y]; exact (q6a _ (lt6y hj) _ (lt6y hk)).1)
theorem add_sub {j k : Nat} (hj : j < 36) (hk : k < 36) : add6 (sub6 j k) k = j := ext6 (by rw [add_x, sub_x]; exact (q6a _ (lt6x j) _ (lt6x k)).2.1) (by rw [add_y, sub_y]; exact (q6a _ (lt6y hj) _ (lt6y hk)).2.1)
theorem sub_sub {j k : Nat} (hj : j < 36) (hk : k < 36) : sub6 j (sub6 j k) = k := ext6 (by rw [sub_x, sub_x]; exact (q6a _ (lt6x j) _ (lt6x k)).2.2.1) (by rw [sub_y, sub_y]; exact (q6a _ (lt6y hj) _ (lt6y hk)).2.2.1)
theorem add_comm6 (j k : Nat) : add6 j k = add6 k j := ext6 (by rw [add_x, add_x, ax, ax, Nat.add_comm]) (by rw [add_y, add_y, ax, ax, Nat.add_comm])
theorem add_assoc6 {i j k : Nat} (hi : i < 36) (hj : j < 36) (hk : k < 36) : add6 (add6 i j) k = add6 i (add6 j k) := ext6 (by rw [add_x, add_x, add_x, add_x]; exact (q6b _ (lt6x i) _ (lt6x j) _ (lt6x k)).2.2) (by rw [add_y, add_y, add_y, add_y]; exact (q6b _ (lt6y hi) _ (lt6y hj) _ (lt6y hk)).2.2)
theorem sub_comm6 {j a b : Nat} (hj : j < 36) (ha : a < 36) (hb : b < 36) : sub6 (sub6 j a) b = sub6 (sub6 j b) a := ext6 (by rw [sub_x, sub_x, sub_x, sub_x]; exact (q6b _ (lt6x j) _ (lt6x a) _ (lt6x b)).1) (by rw [sub_y, sub_y, sub_y, sub_y]; exact (q6b _ (lt6y hj) _ (lt6y ha) _ (lt6y hb)).1)
theorem sub_sub_eq {j a b : Nat} (hj : j < 36) (ha : a < 36) (hb : b < 36) : sub6 (sub6 j a) b = sub6 j (add6 a b) := ext6 (by rw [sub_x, sub_x, sub_x, add_x]; exact (q6b _ (lt6x j) _ (lt6x a) _ (lt6x b)).2.1) (by rw [sub_y, sub_y, sub_y, add_y]; exact (q6b _ (lt6y hj) _ (lt6y ha) _ (lt6y hb)).2.1)
theorem neg_x (k : Nat) : neg6 k % 6 = sx 0 (k % 6) := sub_x 0 k
theorem neg_y (k : Nat) : neg6 k / 6 = sx 0 (k / 6) := sub_y 0 k
theorem neg_sub {j k : Nat} (hj : j < 36) (hk : k < 36) : neg6 (sub6 j k) = sub6 k j := ext6 (by rw [neg_x, sub_x, sub_x]; exact (q6a _ (lt6x j) _ (lt6x k)).2.2.2.1) (by rw [neg_y, sub_y, sub_y]; exact (q6a _ (lt6y hj) _ (lt6y hk)).2.2.2.1)
theorem neg_neg6 {k : Nat} (hk : k < 36) : neg6 (neg6 k) = k := ext6 (by rw [neg_x, neg_x]; exact (q6a _ (lt6x k) 0 (by decide)).2.2.2.2.1) (by rw [neg_y, neg_y]; exact (q6a _ (lt6y hk) 0 (by decide)).2.2.2.2.1)
theorem sub_zero6 {k : Nat} (hk : k < 36) : sub6 k 0 = k := ext6 (by rw [sub_x]; exact (q6a _ (lt6x k) 0 (by decide)).2.2.2.2.2.1) (by rw [sub_y]; exact (q6a _ (lt6y hk) 0 (by decide)).2.2.2.2.2.1)
theorem sub_self6 (k : Nat) (hk : k < 36) : sub6 k k = 0 := ext6 (by rw [sub_x]; exact (q6a _ (lt6x k) 0 (by decide)).2.2.2.2.2.2.1) (by rw [sub_y]; exact (q6a _ (lt6y hk) 0 (by decide)).2.2.2.2.2.2.1)
theorem zero_add6 {k : Nat} (hk : k < 36) : add6 0 k = k := ext6 (by rw [add_x]; exact (q6a _ (lt6x k) 0 (by decide)).2.2.2.2.2.2.2) (by rw [add_y]; exact (q6a _ (lt6y hk) 0 (by decide)).2.2.2.2.2.2.2)
theorem testBit_inkL (n j : Nat) (hj : j < 36) : ∀ (L : List Nat) (o : Nat), (L.foldl (fun o k => o ||| sh n (k % 6) (k / 6)) o).testBit j = (o.testBit j || L.any fun k => n.testBit (sub6 j k))
  | [], o => by simp
  | k :: L, o => by
    rw [List.foldl_cons, testBit_inkL n j hj L, Nat.testBit_or, testBit_sh _ _ _ _ hj, List.any_cons, Bool.or_assoc]
    rfl
theorem bit_spr (n m j : Nat) (hj : j < 36) : (spr n m).testBit j = true ↔ ∃ k, k < 36 ∧ m.testBit k = true ∧ n.testBit (sub6 j k) = true := by
  unfold spr inkL
  rw [testBit_inkL n j hj, Nat.zero_testBit, Bool.false_or, List.any_eq_true]
  constructor
  · rintro ⟨k, hk, h⟩
    obtain ⟨h1, h2⟩ := List.mem_filter.1 hk
    exact ⟨k, List.mem_range.1 h1, h2, h⟩
  · rintro ⟨k, hk, h1, h2⟩
    exact ⟨k, List.mem_filter.2 ⟨List.mem_range.2 hk, h1⟩, h2⟩
theorem foldL_lt (n : Nat) : ∀ (L : List Nat) (o : Nat), o < 68719476736 → L.foldl (fun o k => o ||| sh n (k % 6) (k / 6)) o < 68719476736
  | [], o, h => h
  | k :: L, o, h => by rw [List.foldl_cons]; exact foldL_lt n L _ (or36 h (sh_lt _ _ _))
theorem spr_lt36 (n m : Nat) : spr n m < 68719476736 := foldL_lt n _ 0 (by omega)
theorem and_cmp0 {a b : Nat} (ha : a < 68719476736) : a &&& cmp b = 0 ↔ ∀ k, k < 36 → a.testBit k = true → b.testBit k = true := by
  constructor
  · intro h k hk h1
    have := congrArg (fun z => z.testBit k) h
    simp only [Nat.testBit_and, testBit_cmp b k hk, h1, Nat.zero_testBit, Bool.true_and] at this
    simpa using this
  · intro h
    refine ext36 (and36 _ ha) (by omega) fun k hk => ?_
    rw [Nat.testBit_and, testBit_cmp b k hk, Nat.zero_testBit]
    cases h1 : a.testBit k with
    | false => rfl
    | true => rw [h k hk h1]; rfl
theorem bit_shr (n m k : Nat) (hk : k < 36) : (shr n m).testBit k = true ↔ ∀ j, j < 36 → m.testBit (sub6 j k) = true → n.testBit j = true := by
  unfold shr
  rw [testBit_mkN]
  simp only [hk, decide_true, Bool.true_and]
  unfold fitP
  rw [decide_eq_true_eq, and_cmp0 (sh_lt _ _ _)]
  constructor
  · intro h j hj h1
    exact h j hj (by rw [testBit_sh _ _ _ _ hj]; exact h1)
  · intro h j hj h1
    rw [testBit_sh _ _ _ _ hj] at h1
    exact h j hj h1
/-- a part -/
def sb (a b : Nat) : Prop := ∀ k, k < 36 → a.testBit k = true → b.testBit k = true
theorem sb_iff {a b : Nat} (ha : a < 68719476736) : a &&& cmp b = 0 ↔ sb a b := and_cmp0 ha
theorem sb_refl (a : Nat) : sb a a := fun _ _ h => h
theorem sb_trans {a b c : Nat} (h : sb a b) (k : sb b c) : sb a c := fun i hi h1 => k i hi (h i hi h1)
theorem sb_anti {a b : Nat} (ha : a < 68719476736) (hb : b < 68719476736) (h : sb a b) (k : sb b a) : a = b := ext36 ha hb fun i hi => by
  have h1 := h i hi
  have h2 := k i hi
  cases h3 : a.testBit i <;> cases h4 : b.testBit i <;> simp_all
/-- a set that is spread is part of another one just if it is part of that one shrunk -/
theorem adj (t n m : Nat) : sb (spr t m) n ↔ sb t (shr n m) := by
  constructor
  · intro h k hk h1
    rw [bit_shr n m k hk]
    intro j hj h2
    refine h j hj ((bit_spr t m j hj).2 ⟨sub6 j k, sub6_lt _ _, h2, ?_⟩)
    rw [sub_sub hj hk]
    exact h1
  · intro h j hj h1
    obtain ⟨k, hk, h2, h3⟩ := (bit_spr t m j hj).1 h1
    refine (bit_shr n m _ (sub6_lt j k)).1 (h _ (sub6_lt _ _) h3) j hj ?_
    rw [sub_sub hj hk]
    exact h2
theorem spr_mono {a b : Nat} (m : Nat) (h : sb a b) : sb (spr a m) (spr b m) := (adj a (spr b m) m).2 (sb_trans h ((adj b (spr b m) m).1 (sb_refl _)))
theorem shr_mono {a b : Nat} (m : Nat) (h : sb a b) : sb (shr a m) (shr b m) := (adj (shr a m) b m).1 (sb_trans ((adj (shr a m) a m).2 (sb_refl _)) h)
theorem open_sb (n m : Nat) : sb (spr (shr n m) m) n := (adj (shr n m) n m).2 (sb_refl _)
theorem sb_close (n m : Nat) : sb n (shr (spr n m) m) := (adj n (spr n m) m).1 (sb_refl _)
theorem open_twice (n m : Nat) : spr (shr (spr (shr n m) m) m) m = spr (shr n m) m :=
  sb_anti (spr_lt36 _ _) (spr_lt36 _ _) (open_sb _ _) (spr_mono m (sb_close (shr n m) m))
theorem close_twice (n m : Nat) : shr (spr (shr (spr n m) m) m) m = shr (spr n m) m :=
  sb_anti (shr_lt _ _) (shr_lt _ _) (shr_mono m (open_sb (spr n m) m)) (sb_close _ _)
/-- the reflection -/
def refl6 (m : Nat) : Nat := mkN (fun k => m.testBit (neg6 k)) 36
theorem refl6_lt (m : Nat) : refl6 m < 68719476736 := mk36_lt _
theorem bit_refl (m k : Nat) (hk : k < 36) : (refl6 m).testBit k = m.testBit (neg6 k) := by unfold refl6; rw [testBit_mkN]; simp [hk]
/-- what is white of a spread sheet is what is white, shrunk by the reflection -/
theorem white_spr (n m : Nat) : shr (cmp n) (refl6 m) = cmp (spr n m) := by
  refine ext36 (shr_lt _ _) (cmp_lt _) fun k hk => ?_
  rw [testBit_cmp _ k hk]
  have h1 := bit_shr (cmp n) (refl6 m) k hk
  have h2 := bit_spr n m k hk
  have h3 : (shr (cmp n) (refl6 m)).testBit k = true ↔ ¬ (spr n m).testBit k = true := by
    rw [h1, h2]
    constructor
    · rintro h ⟨i, hi, h4, h5⟩
      have := h (sub6 k i) (sub6_lt _ _) (by rw [bit_refl _ _ (sub6_lt _ _), neg_sub (sub6_lt _ _) hk, sub_sub hk hi]; exact h4)
      rw [testBit_cmp _ _ (sub6_lt _ _), h5] at this
      cases this
    · intro h j hj h4
      rw [testBit_cmp _ j hj]
      cases h5 : n.testBit j with
      | false => rfl
      | true =>
        rw [bit_refl _ _ (sub6_lt _ _), neg_sub hj hk] at h4
        exact absurd ⟨sub6 k j, sub6_lt _ _, h4, by rw [sub_sub hk hj]; exact h5⟩ h
  cases h4 : (spr n m).testBit k with
  | false => rw [h4] at h3; exact h3.2 (by simp)
  | true => rw [h4] at h3; cases h5 : (shr (cmp n) (refl6 m)).testBit k with
    | false => rfl
    | true => exact absurd rfl (h3.1 h5)
theorem bool_of_iff {a b : Bool} (h : a = true ↔ b = true) : a = b := by cases a <;> cases b <;> simp_all
theorem spr_comm (a b : Nat) : spr a b = spr b a := by
  have one : ∀ a b j, j < 36 → (spr a b).testBit j = true → (spr b a).testBit j = true := fun a b j hj h => by
    obtain ⟨k, hk, h1, h2⟩ := (bit_spr a b j hj).1 h
    exact (bit_spr b a j hj).2 ⟨sub6 j k, sub6_lt _ _, h2, by rw [sub_sub hj hk]; exact h1⟩
  exact ext36 (spr_lt36 _ _) (spr_lt36 _ _) fun j hj => bool_of_iff ⟨one a b j hj, one b a j hj⟩
theorem spr_sum (n a b : Nat) : spr n (spr a b) = spr (spr n a) b := by
  refine ext36 (spr_lt36 _ _) (spr_lt36 _ _) fun j hj => bool_of_iff ?_
  rw [bit_spr n _ j hj, bit_spr (spr n a) b j hj]
  constructor
  · rintro ⟨k, hk, h1, h2⟩
    obtain ⟨i, hi, h3, h4⟩ := (bit_spr a b k hk).1 h1
    refine ⟨i, hi, h3, (bit_spr n a _ (sub6_lt _ _)).2 ⟨sub6 k i, sub6_lt _ _, h4, ?_⟩⟩
    rw [sub_sub_eq hj hi (sub6_lt _ _), add_comm6, add_sub hk hi]
    exact h2
  · rintro ⟨i, hi, h3, h⟩
    obtain ⟨q, hq, h4, h2⟩ := (bit_spr n a _ (sub6_lt _ _)).1 h
    refine ⟨add6 q i, add6_lt _ _, (bit_spr a b _ (add6_lt _ _)).2 ⟨i, hi, h3, by rw [sub_add hq hi]; exact h4⟩, ?_⟩
    rw [add_comm6, ← sub_sub_eq hj hi hq]
    exact h2
theorem and_sb_left (a b : Nat) : sb (a &&& b) a := fun k _ h => by rw [Nat.testBit_and, Bool.and_eq_true] at h; exact h.1
theorem and_sb_right (a b : Nat) : sb (a &&& b) b := fun k _ h => by rw [Nat.testBit_and, Bool.and_eq_true] at h; exact h.2
theorem and_cmp_and (a b : Nat) (ha : a < 68719476736) : (a &&& cmp b) &&& b = 0 := ext36 (and36 _ (and36 _ ha)) (by omega) fun k hk => by
  rw [Nat.testBit_and, Nat.testBit_and, testBit_cmp b k hk, Nat.zero_testBit]
  cases a.testBit k <;> cases b.testBit k <;> rfl
end Go.Proofs.Ytadnfocbfabjnab
