/- TileM TilL TilF Opens: contracts of functions, and lemmas, for this seat. Conditions: as each states. -/
import Derived.Test.YtlifhoajamnehaaTd03
import Derived.Test.YtlifhoajamnehaaTd01
import Derived.Test.YtlifhoajamnehaaTd04
import Derived.Test.YtlifhoajamnehaaTd05
set_option linter.unusedVariables false
set_option linter.unusedSimpArgs false
set_option maxRecDepth 100000
set_option maxHeartbeats 1000000
namespace Go.Proofs.Ytlifhoajamnehaa
open Go Go.RowKit
/-! tilings, and stamps apart -/
/-- is a set part of another? -/
def prt (a z : Nat) : Bool := decide (a &&& cmp z = 0)
/-- have two sets no cell in common? -/
def ap2 (a b : Nat) : Bool := decide (a &&& b = 0)
/-- what is left of z without a -/
def mns (z a : Nat) : Nat := z &&& cmp a
theorem mns_lt {z : Nat} (a : Nat) (h : z < 68719476736) : mns z a < 68719476736 := and36 _ h
theorem testBit_mns (z a k : Nat) (hk : k < 36) : (mns z a).testBit k = (z.testBit k && !a.testBit k) := by unfold mns; rw [Nat.testBit_and, testBit_cmp a k hk]
theorem prt_iff {a : Nat} (z : Nat) (ha : a < 68719476736) : prt a z = true ↔ ∀ k, k < 36 → a.testBit k = true → z.testBit k = true := by
  unfold prt
  rw [decide_eq_true_eq]
  constructor
  · intro h k hk hb
    have := congrArg (fun t => t.testBit k) h
    simp only [Nat.testBit_and, testBit_cmp z k hk, Nat.zero_testBit, hb, Bool.true_and] at this
    simpa using this
  · intro h
    refine ext36 (and36 _ ha) (by omega) fun k hk => ?_
    rw [Nat.testBit_and, testBit_cmp z k hk, Nat.zero_testBit]
    cases hb : a.testBit k
    · rfl
    · rw [h k hk hb]; rfl
theorem ap2_iff {a : Nat} (b : Nat) (ha : a < 68719476736) : ap2 a b = true ↔ ∀ k, k < 36 → a.testBit k = true → b.testBit k = false := by
  unfold ap2
  rw [decide_eq_true_eq]
  constructor
  · intro h k hk hb
    have := congrArg (fun t => t.testBit k) h
    simpa only [Nat.testBit_and, Nat.zero_testBit, hb, Bool.true_and] using this
  · intro h
    refine ext36 (and36 _ ha) (by omega) fun k hk => ?_
    rw [Nat.testBit_and, Nat.zero_testBit]
    cases hb : a.testBit k
    · rfl
    · rw [h k hk hb]; rfl
theorem ap2_comm (a b : Nat) : ap2 a b = ap2 b a := by unfold ap2; rw [Nat.and_comm]
theorem ap2_self {a : Nat} (h : a ≠ 0) : ap2 a a = false := by unfold ap2; rw [Nat.and_self]; exact decide_eq_false h
theorem ap2_bit {a b q : Nat} (ha : a < 68719476736) (h : a.testBit q = true) (k : b.testBit q = true) : ap2 a b = false := by
  rw [← Bool.not_eq_true, ap2_iff b ha]
  intro e
  have := e q (bit36 ha h) h
  rw [k] at this; cases this
theorem prt_mns {a : Nat} (z b : Nat) (ha : a < 68719476736) : prt a (mns z b) = (prt a z && ap2 a b) := by
  rw [Bool.eq_iff_iff, Bool.and_eq_true, prt_iff _ ha, prt_iff _ ha, ap2_iff _ ha]
  constructor
  · intro h
    refine ⟨fun k hk hb => ?_, fun k hk hb => ?_⟩
    · have := h k hk hb
      rw [testBit_mns z b k hk, Bool.and_eq_true] at this
      exact this.1
    · have := h k hk hb
      rw [testBit_mns z b k hk, Bool.and_eq_true] at this
      simpa using this.2
  · intro h k hk hb
    rw [testBit_mns z b k hk, h.1 k hk hb, h.2 k hk hb]; rfl
theorem mns_comm (z a b : Nat) : mns (mns z a) b = mns (mns z b) a := by unfold mns; rw [Nat.and_assoc, Nat.and_assoc, Nat.and_comm (cmp a)]
theorem prt_0 {a : Nat} (ha : a < 68719476736) (h : a ≠ 0) : prt a 0 = false := by
  rw [← Bool.not_eq_true, prt_iff _ ha]
  intro e
  refine h (ext36 ha (by omega) fun k hk => ?_)
  cases hb : a.testBit k
  · rw [Nat.zero_testBit]
  · have := e k hk hb
    rw [Nat.zero_testBit] at this; cases this
theorem bit_ne {z q : Nat} (h : z.testBit q = true) : z ≠ 0 := fun e => by rw [e, Nat.zero_testBit] at h; cases h
theorem cnt_mns {a : Nat} (z : Nat) (ha : a < 68719476736) (h : prt a z = true) : cnt (mns z a) + cnt a = cnt z := by
  have key : ∀ k, k ≤ 36 → cntN (mns z a) k + cntN a k = cntN z k := by
    intro k
    induction k with
    | zero => intro _; rfl
    | succ k ih =>
      intro hk
      have i := ih (by omega)
      rw [cntN, cntN, cntN, testBit_mns z a k (by omega)]
      cases hb : a.testBit k
      · cases hz : z.testBit k <;> simp <;> omega
      · rw [(prt_iff z ha).1 h k (by omega) hb]; simp; omega
  exact key 36 (Nat.le_refl _)
theorem cnt_pos {a : Nat} (ha : a < 68719476736) (h : a ≠ 0) : 0 < cnt a := by
  rcases Nat.eq_zero_or_pos (cnt a) with e | e
  · have h0 : lst a 36 = [] := List.eq_nil_of_length_eq_zero (by rw [lst_length]; exact e)
    refine absurd (ext36 ha (by omega) fun k hk => ?_) h
    rw [Nat.zero_testBit]
    cases hb : a.testBit k
    · rfl
    · have : k ∈ lst a 36 := mem_lst.2 ⟨hk, hb⟩
      rw [h0] at this; cases this
  · exact e
/-- xor takes a part away -/
theorem xor_mns {a z : Nat} (ha : a < 68719476736) (hz : z < 68719476736) (h : prt a z = true) : z ^^^ a = mns z a :=
  ext36 (xor36 hz ha) (mns_lt _ hz) fun k hk => by
    rw [Nat.testBit_xor, testBit_mns z a k hk]
    cases hb : a.testBit k
    · cases z.testBit k <;> rfl
    · rw [(prt_iff z ha).1 h k hk hb]; rfl
/-- how many ways there are to take stamps of a list, all apart, that make up z -/
def cT (f : Nat → Nat) : List Nat → Nat → Nat
  | [], z => if z = 0 then 1 else 0
  | k :: o, z => cT f o z + (if prt (f k) z then cT f o (mns z (f k)) else 0)
/-- .. of which the one at a cell q is told first -/
def sT (f : Nat → Nat) (q : Nat) (o : List Nat) (z : Nat) : List Nat → Nat
  | [] => 0
  | j :: l => (if (f j).testBit q && prt (f j) z then cT f o (mns z (f j)) else 0) + sT f q o z l
theorem sT_cons (f : Nat → Nat) (hf : ∀ k, f k < 68719476736) (q k : Nat) (o : List Nat) (z : Nat) : ∀ l, sT f q (k :: o) z l = sT f q o z l + (if prt (f k) z && !(f k).testBit q then sT f q o (mns z (f k)) l else 0)
  | [] => by unfold sT; split <;> rfl
  | j :: l => by
    rw [sT, sT, sT, sT_cons f hf q k o z l, cT, prt_mns z (f j) (hf k), prt_mns z (f k) (hf j), ap2_comm (f k) (f j), mns_comm z (f k) (f j)]
    have hx : (f j).testBit q = true → (f k).testBit q = true → ap2 (f j) (f k) = false := ap2_bit (hf j)
    cases h1 : (f j).testBit q <;> cases h2 : prt (f j) z <;> cases h3 : prt (f k) z <;> cases h4 : (f k).testBit q <;> cases h5 : ap2 (f j) (f k) <;> simp [h1, h4, h5] at hx ⊢ <;> omega
theorem cT_first (f : Nat → Nat) (hf : ∀ k, f k < 68719476736) (h0 : ∀ k, f k ≠ 0) (q : Nat) (hq : q < 36) : ∀ (o : List Nat) (z : Nat), z.testBit q = true → cT f o z = sT f q o z o
  | [], z, hz => by rw [cT, if_neg (bit_ne hz)]; rfl
  | k :: o, z, hz => by
    rw [cT, sT, cT, sT_cons f hf q k o z o, cT_first f hf h0 q hq o z hz, prt_mns z (f k) (hf k), ap2_self (h0 k)]
    cases h4 : (f k).testBit q
    · have e := cT_first f hf h0 q hq o (mns z (f k)) (by rw [testBit_mns z _ q hq, hz, h4]; rfl)
      rw [e]
      cases h3 : prt (f k) z <;> simp
    · cases h3 : prt (f k) z <;> simp; omega
theorem cT_0 (f : Nat → Nat) (hf : ∀ k, f k < 68719476736) (h0 : ∀ k, f k ≠ 0) : ∀ o, cT f o 0 = 1
  | [] => rfl
  | k :: o => by rw [cT, prt_0 (hf k) (h0 k), cT_0 f hf h0 o]; simp
/-- how many stamps of a list, all apart, there are at most in z -/
def aT (f : Nat → Nat) : List Nat → Nat → Nat
  | [], _ => 0
  | k :: o, z => max (aT f o z) (if prt (f k) z then 1 + aT f o (mns z (f k)) else 0)
def mT (f : Nat → Nat) (q : Nat) (o : List Nat) (z : Nat) : List Nat → Nat
  | [] => 0
  | j :: l => max (if (f j).testBit q && prt (f j) z then 1 + aT f o (mns z (f j)) else 0) (mT f q o z l)
theorem mT_cons (f : Nat → Nat) (hf : ∀ k, f k < 68719476736) (q k : Nat) (o : List Nat) (z : Nat) : ∀ l, mT f q (k :: o) z l = max (mT f q o z l) (if prt (f k) z && !(f k).testBit q && decide (0 < mT f q o (mns z (f k)) l) then 1 + mT f q o (mns z (f k)) l else 0)
  | [] => by simp [mT]
  | j :: l => by
    rw [mT, mT, mT, mT_cons f hf q k o z l, aT, prt_mns z (f j) (hf k), prt_mns z (f k) (hf j), ap2_comm (f k) (f j), mns_comm z (f k) (f j)]
    have hx : (f j).testBit q = true → (f k).testBit q = true → ap2 (f j) (f k) = false := ap2_bit (hf j)
    generalize mT f q o (mns z (f k)) l = A
    generalize mT f q o z l = B
    generalize aT f o (mns z (f j)) = C
    generalize aT f o (mns (mns z (f j)) (f k)) = D
    cases h1 : (f j).testBit q <;> cases h2 : prt (f j) z <;> cases h3 : prt (f k) z <;> cases h4 : (f k).testBit q <;> cases h5 : ap2 (f j) (f k) <;> simp [h1, h4, h5] at hx ⊢ <;> (repeat' split) <;> omega
theorem pow_bit (q : Nat) : (2 ^ q).testBit q = true := by rw [Nat.testBit_two_pow]; simp
theorem ap2_pow {a : Nat} (q : Nat) (hq : q < 36) (ha : a < 68719476736) : ap2 a (2 ^ q) = !a.testBit q := by
  cases hb : a.testBit q
  · refine (ap2_iff _ ha).2 fun k hk h => ?_
    rw [Nat.testBit_two_pow]
    by_cases e : q = k
    · subst e; rw [hb] at h; cases h
    · exact decide_eq_false e
  · exact ap2_bit ha hb (pow_bit q)
theorem aT_first (f : Nat → Nat) (hf : ∀ k, f k < 68719476736) (h0 : ∀ k, f k ≠ 0) (q : Nat) (hq : q < 36) : ∀ (o : List Nat) (z : Nat), z.testBit q = true → aT f o z = max (aT f o (mns z (2 ^ q))) (mT f q o z o)
  | [], z, hz => by simp [aT, mT]
  | k :: o, z, hz => by
    rw [aT, aT, mT, aT, mT_cons f hf q k o z o, prt_mns z (f k) (hf k), ap2_self (h0 k), prt_mns z (2 ^ q) (hf k), ap2_pow q hq (hf k), mns_comm z (2 ^ q) (f k)]
    have i1 := aT_first f hf h0 q hq o z hz
    cases h4 : (f k).testBit q
    · have i2 := aT_first f hf h0 q hq o (mns z (f k)) (by rw [testBit_mns z _ q hq, hz, h4]; rfl)
      cases h3 : prt (f k) z <;> simp <;> (repeat' split) <;> omega
    · cases h3 : prt (f k) z <;> simp <;> (repeat' split) <;> omega
theorem aT_0 (f : Nat → Nat) (hf : ∀ k, f k < 68719476736) (h0 : ∀ k, f k ≠ 0) : ∀ o, aT f o 0 = 0
  | [] => rfl
  | k :: o => by rw [aT, prt_0 (hf k) (h0 k), aT_0 f hf h0 o]; simp
theorem aT_le (f : Nat → Nat) : ∀ (o : List Nat) (z : Nat), aT f o z ≤ o.length
  | [], _ => Nat.le_refl _
  | k :: o, z => by
    have h1 := aT_le f o z
    have h2 := aT_le f o (mns z (f k))
    rw [aT, List.length_cons]
    split <;> omega
theorem cT_le (f : Nat → Nat) : ∀ (o : List Nat) (z : Nat), cT f o z ≤ 2 ^ o.length
  | [], z => by unfold cT; split <;> simp
  | k :: o, z => by
    have h1 := cT_le f o z
    have h2 := cT_le f o (mns z (f k))
    rw [cT, List.length_cons, Nat.pow_succ]
    split <;> omega
/-! shifted stamps -/
/-- a stamp pressed at the cell with a number -/
def pr6 (m k : Nat) : Nat := sh m (k % 6) (k / 6)
theorem pr6_lt (m k : Nat) : pr6 m k < 68719476736 := sh_lt _ _ _
theorem sh_big (m x y : Nat) (h : 6 ≤ y) : sh m x y = sh m x 0 := by
  unfold sh
  refine mkN_congr 36 fun j _ => ?_
  have : src x y j = src x 0 j := by unfold src; omega
  rw [this]
theorem pr6_ne {m : Nat} (hm : m < 68719476736) (h : m ≠ 0) (k : Nat) : pr6 m k ≠ 0 := fun e => by
  have h2 := cnt_pos hm h
  have h3 : cnt 0 = 0 := by decide
  unfold pr6 at e
  rcases Nat.lt_or_ge (k / 6) 6 with h4 | h4
  · have h1 := cnt_sh m (k % 6) (k / 6) (by omega) h4
    rw [e] at h1
    omega
  · rw [sh_big m _ _ h4] at e
    have h1 := cnt_sh m (k % 6) 0 (by omega) (by omega)
    rw [e] at h1
    omega
end Go.Proofs.Ytlifhoajamnehaa
set_option linter.unusedVariables false
set_option linter.unusedSimpArgs false
set_option maxRecDepth 100000
set_option maxHeartbeats 1000000
namespace Go.Proofs.Ytlifhoajamnehaa
open Go Go.RowKit
theorem fl_first0 {z : Nat} (hz : z < 68719476736) (h : z ≠ 0) : ∃ q, (fl z.testBit 36)[0]? = some q ∧ q < 36 ∧ z.testBit q = true := by
  cases hl : fl z.testBit 36 with
  | nil =>
    refine absurd (ext36 hz (by omega) fun k hk => ?_) h
    rw [Nat.zero_testBit]
    cases hb : z.testBit k
    · rfl
    · have : k ∈ fl z.testBit 36 := List.mem_filter.2 ⟨List.mem_range.2 hk, hb⟩
      rw [hl] at this; cases this
  | cons q L =>
    refine ⟨q, by simp, ?_⟩
    have : q ∈ fl z.testBit 36 := by rw [hl]; exact List.mem_cons_self
    obtain ⟨h1, h2⟩ := List.mem_filter.1 this
    exact ⟨List.mem_range.1 h1, h2⟩
theorem cnt_less0 {a z : Nat} (ha : a < 68719476736) (h0 : a ≠ 0) (h : prt a z = true) : cnt (mns z a) < cnt z := by
  have := cnt_mns z ha h
  have := cnt_pos ha h0
  omega
/-- the first cell of a set -/
def fstB (z : Nat) : Nat := ((fl z.testBit 36)[0]?).getD 0
/-- all tilings, as the program tells them -/
def tI (f : Nat → Nat) (L : List Nat) : Nat → Nat → List Nat → List (List Nat)
  | 0, _, _ => []
  | N + 1, z, D => if z = 0 then [D] else L.flatMap fun k => if ((f k).testBit (fstB z) && prt (f k) z) = true then tI f L N (mns z (f k)) (D ++ [k]) else []
def tG (f : Nat → Nat) (L : List Nat) (N z : Nat) (D : List Nat) (k : Nat) : List (List Nat) := if ((f k).testBit (fstB z) && prt (f k) z) = true then tI f L N (mns z (f k)) (D ++ [k]) else []
theorem tI_0 (f : Nat → Nat) (L : List Nat) (N : Nat) (D : List Nat) : tI f L (N + 1) 0 D = [D] := by rw [tI, if_pos rfl]
theorem tI_s (f : Nat → Nat) (L : List Nat) (N : Nat) {z : Nat} (h : z ≠ 0) (D : List Nat) : tI f L (N + 1) z D = L.flatMap (tG f L N z D) := by rw [tI, if_neg h]; rfl
theorem tG_t {f : Nat → Nat} {L : List Nat} {N z : Nat} {D : List Nat} {k : Nat} (h1 : (f k).testBit (fstB z) = true) (h2 : prt (f k) z = true) : tG f L N z D k = tI f L N (mns z (f k)) (D ++ [k]) := by unfold tG; rw [h1, h2]; rfl
theorem tG_f {f : Nat → Nat} {L : List Nat} {N z : Nat} {D : List Nat} {k : Nat} (h : ((f k).testBit (fstB z) && prt (f k) z) = false) : tG f L N z D k = [] := by unfold tG; rw [h]; rfl
theorem tI_len (f : Nat → Nat) (hf : ∀ k, f k < 68719476736) (h0 : ∀ k, f k ≠ 0) (L : List Nat) : ∀ (N z : Nat) (D : List Nat), cnt z < N → z < 68719476736 → (tI f L N z D).length = cT f L z
  | 0, _, _, hN, _ => absurd hN (Nat.not_lt_zero _)
  | N + 1, z, D, hN, hz => by
    by_cases hz0 : z = 0
    · subst hz0
      rw [tI_0, cT_0 f hf h0]; rfl
    · obtain ⟨q, hq0, hq, hqz⟩ := fl_first0 hz hz0
      have hfq : fstB z = q := by unfold fstB; rw [hq0]; rfl
      rw [tI_s f L N hz0, cT_first f hf h0 q hq L z hqz]
      have key : ∀ l : List Nat, (l.flatMap (tG f L N z D)).length = sT f q L z l := by
        intro l
        induction l with
        | nil => rfl
        | cons k l ih =>
          rw [List.flatMap_cons, List.length_append, ih, sT]
          congr 1
          unfold tG
          rw [hfq]
          split
          · rename_i h
            rw [Bool.and_eq_true] at h
            exact tI_len f hf h0 L N _ _ (by have := cnt_less0 (hf k) (h0 k) h.2; omega) (mns_lt _ hz)
          · rfl
      exact key L
/-- of the first j of a list -/
def tJ (g : Nat → List (List Nat)) (L : List Nat) (j : Nat) : List (List Nat) := (L.take j).flatMap g
theorem tJ_0 (g : Nat → List (List Nat)) (L : List Nat) : tJ g L 0 = [] := rfl
theorem tJ_s (g : Nat → List (List Nat)) (L : List Nat) {j k : Nat} (h : L[j]? = some k) : tJ g L (j + 1) = tJ g L j ++ g k := by
  unfold tJ
  rw [List.take_add_one, h, List.flatMap_append]
  simp
theorem tJ_all (g : Nat → List (List Nat)) (L : List Nat) : tJ g L L.length = L.flatMap g := by unfold tJ; rw [List.take_length]
theorem tJ_le (g : Nat → List (List Nat)) (L : List Nat) (j : Nat) : (tJ g L j).length ≤ (L.flatMap g).length := by
  have h : L.flatMap g = (L.take j).flatMap g ++ (L.drop j).flatMap g := by rw [← List.flatMap_append, List.take_append_drop]
  rw [h, List.length_append]
  exact Nat.le_add_right _ _
attribute [irreducible] tJ
/-- all tilings, as the reference tells them -/
def tl (f : Nat → Nat) : List Nat → Nat → List Nat → List (List Nat)
  | [], z, D => if z = 0 then [D] else []
  | k :: O, z, D => if z = 0 then [D] else (if prt (f k) z = true then tl f O (mns z (f k)) (D ++ [k]) else []) ++ tl f O z D
theorem tl_0 (f : Nat → Nat) (O : List Nat) (D : List Nat) : tl f O 0 D = [D] := by cases O <;> simp [tl]
theorem tl_nil (f : Nat → Nat) {z : Nat} (h : z ≠ 0) (D : List Nat) : tl f [] z D = [] := by rw [tl, if_neg h]
theorem tl_cons (f : Nat → Nat) {z : Nat} (h : z ≠ 0) (k : Nat) (O : List Nat) (D : List Nat) : tl f (k :: O) z D = (if prt (f k) z = true then tl f O (mns z (f k)) (D ++ [k]) else []) ++ tl f O z D := by rw [tl, if_neg h]
theorem tl_len (f : Nat → Nat) (hf : ∀ k, f k < 68719476736) (h0 : ∀ k, f k ≠ 0) : ∀ (O : List Nat) (z : Nat) (D : List Nat), (tl f O z D).length = cT f O z
  | [], z, D => by rw [tl, cT]; split <;> rfl
  | k :: O, z, D => by
    by_cases hz : z = 0
    · subst hz
      rw [tl_0, cT_0 f hf h0]; rfl
    · rw [tl_cons f hz, List.length_append, cT, tl_len f hf h0 O z D]
      split
      · rw [tl_len f hf h0 O _ _]; omega
      · simp
/-- what the reference has told behind the first i -/
def tA (f : Nat → Nat) (O : List Nat) (z : Nat) (D : List Nat) : Nat → List (List Nat)
  | 0 => []
  | i + 1 => tA f O z D i ++ (if prt (f O[i]!) z = true then tl f (O.drop (i + 1)) (mns z (f O[i]!)) (D ++ [O[i]!]) else [])
theorem tA_0 (f : Nat → Nat) (O : List Nat) (z : Nat) (D : List Nat) : tA f O z D 0 = [] := rfl
theorem tA_s (f : Nat → Nat) (O : List Nat) (z : Nat) (D : List Nat) {i k : Nat} (h : O[i]? = some k) : tA f O z D (i + 1) = tA f O z D i ++ (if prt (f k) z = true then tl f (O.drop (i + 1)) (mns z (f k)) (D ++ [k]) else []) := by
  obtain ⟨h1, h2⟩ := List.getElem?_eq_some_iff.1 h
  rw [tA, getElem!_pos O i h1, h2]
theorem tA_drop (f : Nat → Nat) (O : List Nat) {z : Nat} (hz : z ≠ 0) (D : List Nat) : ∀ i, i ≤ O.length → tA f O z D i ++ tl f (O.drop i) z D = tl f O z D
  | 0, _ => by rw [tA_0]; rfl
  | i + 1, h => by
    have h1 : O[i]? = some O[i] := List.getElem?_eq_getElem (by omega)
    have h2 := tA_drop f O hz D i (by omega)
    rw [List.drop_eq_getElem_cons (by omega), tl_cons f hz, ← List.append_assoc] at h2
    rw [tA_s f O z D h1]
    exact h2
theorem tA_all (f : Nat → Nat) (O : List Nat) {z : Nat} (hz : z ≠ 0) (D : List Nat) : tA f O z D O.length = tl f O z D := by
  have := tA_drop f O hz D O.length (Nat.le_refl _)
  rwa [List.drop_length, tl_nil f hz, List.append_nil] at this
theorem tA_le (f : Nat → Nat) (O : List Nat) {z : Nat} (hz : z ≠ 0) (D : List Nat) {i : Nat} (h : i ≤ O.length) : (tA f O z D i).length ≤ (tl f O z D).length := by
  rw [← tA_drop f O hz D i h, List.length_append]
  exact Nat.le_add_right _ _
attribute [irreducible] tA
end Go.Proofs.Ytlifhoajamnehaa
set_option linter.unusedVariables false
set_option linter.unusedSimpArgs false
set_option maxRecDepth 100000
set_option maxHeartbeats 1000000
namespace Go.Proofs.Ytlifhoajamnehaa
open Go Go.RowKit
/-! the first tiling -/
/-- stamps of a list, all apart, make up z -/
def Til (f : Nat → Nat) : List Nat → Nat → Prop
  | [], z => z = 0
  | k :: S, z => prt (f k) z = true ∧ Til f S (mns z (f k))
theorem til_swap {f : Nat → Nat} (hf : ∀ k, f k < 68719476736) (a b : Nat) (S : List Nat) (z : Nat) (h : Til f (a :: b :: S) z) : Til f (b :: a :: S) z := by
  obtain ⟨h1, h2, h3⟩ := h
  rw [prt_mns _ _ (hf b), Bool.and_eq_true] at h2
  refine ⟨h2.1, ?_, ?_⟩
  · rw [prt_mns _ _ (hf a), h1, ap2_comm, h2.2]; rfl
  · rw [mns_comm]; exact h3
theorem til_perm {f : Nat → Nat} (hf : ∀ k, f k < 68719476736) {S T : List Nat} (h : S.Perm T) : ∀ z, Til f S z → Til f T z := by
  induction h with
  | nil => exact fun z h => h
  | cons a _ ih => exact fun z h => ⟨h.1, ih _ h.2⟩
  | swap a b l => exact fun z h => til_swap hf b a l z h
  | trans _ _ i1 i2 => exact fun z h => i2 z (i1 z h)
theorem til_has {f : Nat → Nat} : ∀ (S : List Nat) (z q : Nat), q < 36 → z.testBit q = true → Til f S z → ∃ k, k ∈ S ∧ (f k).testBit q = true
  | [], z, q, hq, hz, h => by rw [show z = 0 from h, Nat.zero_testBit] at hz; cases hz
  | k :: S, z, q, hq, hz, h => by
    cases hb : (f k).testBit q
    · obtain ⟨j, hj, hjq⟩ := til_has S _ q hq (by rw [testBit_mns z _ q hq, hz, hb]; rfl) h.2
      exact ⟨j, List.mem_cons_of_mem _ hj, hjq⟩
    · exact ⟨k, List.mem_cons_self, hb⟩
theorem til_0 {f : Nat → Nat} (hf : ∀ k, f k < 68719476736) (h0 : ∀ k, f k ≠ 0) : ∀ S, Til f S 0 → S = []
  | [], _ => rfl
  | k :: S, h => by have := h.1; rw [prt_0 (hf k) (h0 k)] at this; cases this
theorem til_apart {f : Nat → Nat} (hf : ∀ k, f k < 68719476736) (a : Nat) : ∀ (S : List Nat) (z : Nat), Til f S (mns z a) → ∀ k, k ∈ S → ap2 (f k) a = true
  | [], _, _, k, hk => by cases hk
  | b :: S, z, h, k, hk => by
    rcases List.mem_cons.1 hk with rfl | hk
    · have := h.1
      rw [prt_mns _ _ (hf k), Bool.and_eq_true] at this
      exact this.2
    · refine til_apart hf a S (mns z (f b)) ?_ k hk
      rw [mns_comm]; exact h.2
theorem til_nodup {f : Nat → Nat} (hf : ∀ k, f k < 68719476736) (h0 : ∀ k, f k ≠ 0) : ∀ (S : List Nat) (z : Nat), Til f S z → S.Nodup
  | [], _, _ => List.nodup_nil
  | a :: S, z, h => List.nodup_cons.2 ⟨(fun hm => by
      have := til_apart hf (f a) S z h.2 a hm
      rw [ap2_self (h0 a)] at this
      exact absurd this (by decide)), til_nodup hf h0 S _ h.2⟩
theorem tI_til {f : Nat → Nat} {L : List Nat} : ∀ (N z : Nat) (D T : List Nat), T ∈ tI f L N z D → ∃ S, T = D ++ S ∧ Til f S z ∧ ∀ k, k ∈ S → k ∈ L
  | 0, z, D, T, h => by rw [tI] at h; cases h
  | N + 1, z, D, T, h => by
    by_cases hz : z = 0
    · subst hz
      rw [tI_0] at h
      obtain rfl := List.mem_singleton.1 h
      exact ⟨[], (List.append_nil _).symm, rfl, fun k hk => by cases hk⟩
    · rw [tI_s f L N hz] at h
      obtain ⟨k, hk, hT⟩ := List.mem_flatMap.1 h
      unfold tG at hT
      split at hT
      · rename_i hc
        rw [Bool.and_eq_true] at hc
        obtain ⟨S, rfl, hS, hL⟩ := tI_til N _ _ T hT
        refine ⟨k :: S, by simp, ⟨hc.2, hS⟩, fun j hj => ?_⟩
        rcases List.mem_cons.1 hj with rfl | hj
        · exact hk
        · exact hL j hj
      · cases hT
theorem til_tI {f : Nat → Nat} (hf : ∀ k, f k < 68719476736) (h0 : ∀ k, f k ≠ 0) {L : List Nat} : ∀ (N z : Nat) (D S : List Nat), cnt z < N → z < 68719476736 → Til f S z → (∀ k, k ∈ S → k ∈ L) → ∃ S', S'.Perm S ∧ D ++ S' ∈ tI f L N z D
  | 0, z, D, S, h, _, _, _ => absurd h (Nat.not_lt_zero _)
  | N + 1, z, D, S, hN, hz, hS, hL => by
    by_cases h : z = 0
    · subst h
      obtain rfl := til_0 hf h0 S hS
      exact ⟨[], List.Perm.refl _, by rw [tI_0, List.append_nil]; exact List.mem_singleton.2 rfl⟩
    · obtain ⟨q, hq0, hq, hqz⟩ := fl_first0 hz h
      have hfq : fstB z = q := by unfold fstB; rw [hq0]; rfl
      obtain ⟨k, hk, hkq⟩ := til_has S z q hq hqz hS
      have hp := List.perm_cons_erase hk
      have hS2 := til_perm hf hp z hS
      have hc := cnt_less0 (hf k) (h0 k) hS2.1
      obtain ⟨S', hS', hm⟩ := til_tI hf h0 (L := L) N (mns z (f k)) (D ++ [k]) (S.erase k) (by omega) (mns_lt _ hz) hS2.2 (fun j hj => hL j (List.mem_of_mem_erase hj))
      refine ⟨k :: S', (hS'.cons k).trans hp.symm, ?_⟩
      rw [tI_s f L N h]
      refine List.mem_flatMap.2 ⟨k, hL k hk, ?_⟩
      rw [tG_t (by rw [hfq]; exact hkq) hS2.1]
      simpa using hm
theorem tl_til {f : Nat → Nat} : ∀ (O : List Nat) (z : Nat) (D T : List Nat), T ∈ tl f O z D → ∃ S, T = D ++ S ∧ S.Sublist O ∧ Til f S z
  | O, 0, D, T, h => by
    rw [tl_0] at h
    obtain rfl := List.mem_singleton.1 h
    exact ⟨[], (List.append_nil _).symm, List.nil_sublist _, rfl⟩
  | [], z + 1, D, T, h => by rw [tl_nil f (by omega)] at h; cases h
  | k :: O, z + 1, D, T, h => by
    rw [tl_cons f (by omega)] at h
    rcases List.mem_append.1 h with h | h
    · split at h
      · rename_i hc
        obtain ⟨S, rfl, h1, h2⟩ := tl_til O _ _ T h
        exact ⟨k :: S, by simp, h1.cons_cons k, hc, h2⟩
      · cases h
    · obtain ⟨S, rfl, h1, h2⟩ := tl_til O _ _ T h
      exact ⟨S, rfl, h1.cons k, h2⟩
theorem til_tl {f : Nat → Nat} (hf : ∀ k, f k < 68719476736) (h0 : ∀ k, f k ≠ 0) : ∀ (O : List Nat) (z : Nat) (D S : List Nat), S.Sublist O → Til f S z → D ++ S ∈ tl f O z D
  | O, 0, D, S, _, h => by
    obtain rfl := til_0 hf h0 S h
    rw [tl_0, List.append_nil]; exact List.mem_singleton.2 rfl
  | [], z + 1, D, S, hs, h => by
    obtain rfl := List.sublist_nil.1 hs
    exact absurd h (by show ¬ z + 1 = 0; omega)
  | k :: O, z + 1, D, S, hs, h => by
    rw [tl_cons f (by omega)]
    cases hs with
    | cons _ hs => exact List.mem_append_right _ (til_tl hf h0 O _ D S hs h)
    | cons_cons _ hs =>
      rename_i S
      refine List.mem_append_left _ ?_
      rw [if_pos h.1]
      have := til_tl hf h0 O _ (D ++ [k]) S hs h.2
      simpa using this
/-- as Go compares two slices -/
def cmpN : List Nat → List Nat → Int
  | [], [] => 0
  | [], _ :: _ => -1
  | _ :: _, [] => 1
  | a :: A, b :: B => if a < b then -1 else if b < a then 1 else cmpN A B
theorem cmpN_pre (A B : List Nat) : ∀ D : List Nat, cmpN (D ++ A) (D ++ B) = cmpN A B
  | [] => rfl
  | d :: D => by
    rw [List.cons_append, List.cons_append, cmpN, if_neg (Nat.lt_irrefl d), if_neg (Nat.lt_irrefl d)]
    exact cmpN_pre A B D
theorem cmpN_self (A : List Nat) : cmpN A A = 0 := by have := cmpN_pre [] [] A; rw [List.append_nil] at this; exact this
theorem cmpN_trans : ∀ (A B C : List Nat), cmpN A B < 0 → cmpN B C < 0 → cmpN A C < 0
  | [], [], C, h, _ => by rw [cmpN] at h; omega
  | [], b :: B, [], _, h => by rw [cmpN] at h; omega
  | [], b :: B, c :: C, _, _ => by rw [cmpN]; omega
  | a :: A, [], C, h, _ => by rw [cmpN] at h; omega
  | a :: A, b :: B, [], _, h => by rw [cmpN] at h; omega
  | a :: A, b :: B, c :: C, h1, h2 => by
    rw [cmpN] at h1 h2 ⊢
    have ih := cmpN_trans A B C
    by_cases e1 : a < b
    · by_cases e2 : b < c
      · rw [if_pos (by omega)]; omega
      · rw [if_neg e2] at h2
        by_cases e3 : c < b
        · rw [if_pos e3] at h2; omega
        · rw [if_pos (by omega)]; omega
    · rw [if_neg e1] at h1
      by_cases e4 : b < a
      · rw [if_pos e4] at h1; omega
      · rw [if_neg e4] at h1
        by_cases e2 : b < c
        · rw [if_pos (by omega)]; omega
        · rw [if_neg e2] at h2
          by_cases e3 : c < b
          · rw [if_pos e3] at h2; omega
          · rw [if_neg e3] at h2
            rw [if_neg (by omega), if_neg (by omega)]
            exact ih h1 h2
/-- the least one of those that have come -/
def Lst1 (xs : List (List Nat)) (b : Option (List Nat)) : Prop := (xs = [] ∧ b = none) ∨ ∃ y, b = some y ∧ y ∈ xs ∧ ∀ x, x ∈ xs → ¬ cmpN x y < 0
theorem lst1_0 : Lst1 [] none := .inl ⟨rfl, rfl⟩
theorem lst1_first (x : List Nat) : Lst1 [x] (some x) := .inr ⟨x, rfl, List.mem_singleton.2 rfl, fun u hu => by obtain rfl := List.mem_singleton.1 hu; rw [cmpN_self]; omega⟩
theorem lst1_new {xs : List (List Nat)} {y : List Nat} (h : Lst1 xs (some y)) (x : List Nat) (hc : cmpN x y < 0) : Lst1 (xs ++ [x]) (some x) := by
  rcases h with ⟨_, h⟩ | ⟨y', h1, h2, h3⟩
  · cases h
  · cases h1
    refine .inr ⟨x, rfl, List.mem_append_right _ (List.mem_singleton.2 rfl), fun u hu => ?_⟩
    rcases List.mem_append.1 hu with hu | hu
    · exact fun hlt => h3 u hu (cmpN_trans u x y hlt hc)
    · obtain rfl := List.mem_singleton.1 hu
      rw [cmpN_self]; omega
theorem lst1_old {xs : List (List Nat)} {y : List Nat} (h : Lst1 xs (some y)) (x : List Nat) (hc : ¬ cmpN x y < 0) : Lst1 (xs ++ [x]) (some y) := by
  rcases h with ⟨_, h⟩ | ⟨y', h1, h2, h3⟩
  · cases h
  · cases h1
    refine .inr ⟨y, rfl, List.mem_append_left _ h2, fun u hu => ?_⟩
    rcases List.mem_append.1 hu with hu | hu
    · exact h3 u hu
    · obtain rfl := List.mem_singleton.1 hu
      exact hc
theorem lst1_none {xs : List (List Nat)} (h : Lst1 xs none) : xs = [] := by
  rcases h with ⟨h, _⟩ | ⟨_, h, _⟩
  · exact h
  · cases h
/-! ascending lists -/
def Asc (L : List Nat) : Prop := L.Pairwise (· < ·)
theorem asc_sub : ∀ (O S : List Nat), Asc O → Asc S → (∀ k, k ∈ S → k ∈ O) → S.Sublist O
  | _, [], _, _, _ => List.nil_sublist _
  | [], a :: S, _, _, h => by have := h a List.mem_cons_self; cases this
  | k :: O, a :: S, hO, hS, h => by
    obtain ⟨hO1, hO2⟩ := List.pairwise_cons.1 hO
    obtain ⟨hS1, hS2⟩ := List.pairwise_cons.1 hS
    by_cases e : a = k
    · subst e
      refine List.Sublist.cons_cons a (asc_sub O S hO2 hS2 fun j hj => ?_)
      rcases List.mem_cons.1 (h j (List.mem_cons_of_mem _ hj)) with rfl | h1
      · exact absurd (hS1 _ hj) (Nat.lt_irrefl _)
      · exact h1
    · have ha : a ∈ O := by
        rcases List.mem_cons.1 (h a List.mem_cons_self) with h1 | h1
        · exact absurd h1 e
        · exact h1
      have hka := hO1 a ha
      refine List.Sublist.cons k (asc_sub O (a :: S) hO2 hS fun j hj => ?_)
      rcases List.mem_cons.1 (h j hj) with rfl | h1
      · rcases List.mem_cons.1 hj with rfl | h2
        · exact absurd hka (Nat.lt_irrefl _)
        · have := hS1 _ h2; omega
      · exact h1
theorem asc_perm {S T : List Nat} (hS : Asc S) (hT : Asc T) (h : S.Perm T) : S = T :=
  (asc_sub T S hT hS fun k hk => h.mem_iff.1 hk).eq_of_length h.length_eq
def srt (T : List Nat) : List Nat := T.mergeSort (fun a b => decide (a ≤ b))
theorem srt_perm (T : List Nat) : (srt T).Perm T := List.mergeSort_perm T _
theorem srt_asc {T : List Nat} (h : T.Nodup) : Asc (srt T) := by
  have h1 : (srt T).Pairwise (fun a b => decide (a ≤ b) = true) := List.pairwise_mergeSort (fun a b c => by simp; omega) (fun a b => by simp; omega) T
  have h2 : (srt T).Nodup := (srt_perm T).nodup_iff.2 h
  exact (h1.and h2).imp fun ⟨a, b⟩ => by simp at a; omega
theorem asc_fl (p : Nat → Bool) (k : Nat) : Asc (fl p k) := by
  unfold Asc fl
  exact List.Pairwise.filter _ List.pairwise_lt_range
/-- the head is the least -/
theorem tl_head {f : Nat → Nat} : ∀ (O : List Nat) (z : Nat) (D : List Nat), Asc O → ∀ H R, tl f O z D = H :: R → ∀ S, S ∈ tl f O z D → S = H ∨ cmpN H S < 0
  | O, 0, D, _, H, R, h, S, hS => by
    rw [tl_0] at h hS
    cases h
    exact .inl (List.mem_singleton.1 hS)
  | [], z + 1, D, _, H, R, h, S, hS => by rw [tl_nil f (by omega)] at h; cases h
  | k :: O, z + 1, D, hO, H, R, h, S, hS => by
    obtain ⟨hO1, hO2⟩ := List.pairwise_cons.1 hO
    have hall : ∀ S, S ∈ tl f O (z + 1) D → ∃ a A, S = D ++ a :: A ∧ k < a := fun S hS => by
      obtain ⟨S', rfl, h1, h2⟩ := tl_til O _ D S hS
      cases S' with
      | nil => exact absurd h2 (by show ¬ z + 1 = 0; omega)
      | cons a A => exact ⟨a, A, rfl, hO1 a (h1.subset List.mem_cons_self)⟩
    rw [tl_cons f (by omega)] at h hS
    split at h
    · rename_i hc
      rw [if_pos hc] at hS
      cases hA : tl f O (mns (z + 1) (f k)) (D ++ [k]) with
      | nil =>
        rw [hA, List.nil_append] at h hS
        exact tl_head O _ D hO2 H R h S hS
      | cons H' R' =>
        rw [hA, List.cons_append] at h
        have e : H' = H := by injection h
        subst e
        rcases List.mem_append.1 hS with h1 | h1
        · exact tl_head O _ _ hO2 H' R' hA S h1
        · obtain ⟨a, A, rfl, hka⟩ := hall S h1
          obtain ⟨X, hX, _, _⟩ := tl_til O _ (D ++ [k]) H' (by rw [hA]; exact List.mem_cons_self)
          subst hX
          refine .inr ?_
          rw [List.append_assoc, cmpN_pre]
          show cmpN (k :: X) (a :: A) < 0
          rw [cmpN, if_pos hka]; omega
    · rename_i hc
      rw [if_neg hc, List.nil_append] at hS
      rw [List.nil_append] at h
      exact tl_head O _ D hO2 H R h S hS
/-- what the program keeps is the reference's first -/
theorem first_is {f : Nat → Nat} (hf : ∀ k, f k < 68719476736) (h0 : ∀ k, f k ≠ 0) {O : List Nat} (hO : Asc O) (z : Nat) (hz : z < 68719476736) (N : Nat) (hN : cnt z < N) (b : Option (List Nat)) (h : Lst1 ((tI f O N z []).map srt) b) : b = (tl f O z []).head? := by
  have to : ∀ T, T ∈ tI f O N z [] → srt T ∈ tl f O z [] := fun T hT => by
    obtain ⟨S, e, h1, h2⟩ := tI_til N z [] T hT
    rw [List.nil_append] at e
    subst e
    have hp := srt_perm T
    have := til_tl hf h0 O z [] (srt T) (asc_sub O (srt T) hO (srt_asc (til_nodup hf h0 T z h1)) fun k hk => h2 k (hp.mem_iff.1 hk)) (til_perm hf hp.symm z h1)
    rw [List.nil_append] at this
    exact this
  have fro : ∀ S, S ∈ tl f O z [] → S ∈ (tI f O N z []).map srt := fun S hS => by
    obtain ⟨S', e, h1, h2⟩ := tl_til O z [] S hS
    rw [List.nil_append] at e
    subst e
    obtain ⟨T, hT, hm⟩ := til_tI hf h0 (L := O) N z [] S hN hz h2 fun k hk => h1.subset hk
    rw [List.nil_append] at hm
    refine List.mem_map.2 ⟨T, hm, ?_⟩
    have hn : T.Nodup := hT.nodup_iff.2 (til_nodup hf h0 S z h2)
    exact asc_perm (srt_asc hn) (hO.sublist h1) ((srt_perm T).trans hT)
  rcases h with ⟨h1, rfl⟩ | ⟨y, rfl, h2, h3⟩
  · cases ht : tl f O z [] with
    | nil => rfl
    | cons H R =>
      have := fro H (by rw [ht]; exact List.mem_cons_self)
      rw [h1] at this; cases this
  · obtain ⟨T, hT, rfl⟩ := List.mem_map.1 h2
    have hm := to T hT
    cases ht : tl f O z [] with
    | nil => rw [ht] at hm; cases hm
    | cons H R =>
      rcases tl_head O z [] hO H R ht (srt T) hm with e | e
      · rw [e]; rfl
      · exact absurd e (h3 H (fro H (by rw [ht]; exact List.mem_cons_self)))
end Go.Proofs.Ytlifhoajamnehaa
set_option linter.unusedVariables false
set_option linter.unusedSimpArgs false
set_option maxRecDepth 100000
set_option maxHeartbeats 1000000
namespace Go.Proofs.Ytlifhoajamnehaa
open Go Go.RowKit Instr
theorem pxy_Gl (L : List Nat) : ∃ g, pxy L = Gl (L.length * 2) g := by
  obtain ⟨g, hg⟩ := Gl_of (xs := pxy L) (fun u hu => by
    obtain ⟨d, _, h⟩ := List.mem_flatMap.1 hu
    simp at h
    rcases h with rfl | rfl
    · exact ⟨_, rfl⟩
    · exact ⟨_, rfl⟩)
  exact ⟨g, by rw [pxy_length] at hg; exact hg⟩
/-- is a set, pressed at the cell with a number, part of a target? (the stamp first) -/
def opP (m n k : Nat) : Bool := decide (sh m (k % 6) (k / 6) &&& cmp n = 0)
theorem l6Open_n (m n : Nat) (w : World) : Calls Try.prog 121 #[(.agg #[.int .i64 (rw m 0), .int .i64 (rw m 1), .int .i64 (rw m 2), .int .i64 (rw m 3), .int .i64 (rw m 4), .int .i64 (rw m 5)]), (.agg #[.int .i64 (rw n 0), .int .i64 (rw n 1), .int .i64 (rw n 2), .int .i64 (rw n 3), .int .i64 (rw n 4), .int .i64 (rw n 5)])] w fun e w' => ∃ v, e = .returned v ∧ Ext w w' ∧ w'.ownsRow w.heap.size 33 2 v (fl (opP m n) 36).length (pxy (fl (opP m n) 36)) := by
  obtain ⟨i0, hi, iz0, iz1, iz2⟩ := info_parts info_two
  skip
  go_enter Try.func121, Try.ntmps121
  go_wp2
  go_loopw [5, 6] (fun v i wr => ∃ k : Nat, k ≤ 36 ∧ i = .int .i64 k ∧ Ext w wr ∧ Arr wr w.heap.size (rw m) ∧ Arr wr (w.heap.size + 1) (rw n) ∧ w.heap.size + 2 < wr.heap.size ∧ wr.ownsRow (w.heap.size + 2) 33 2 v (fl (opP m n) k).length (pxy (fl (opP m n) k))) (fun _ i _ => 36 - (intOf i).toNat)
  case atStart =>
    refine ⟨0, Nat.zero_le _, rfl, (by (repeat' (first | (with_reducible exact Ext.refl _) | (with_reducible assumption) | (with_reducible refine Ext.alloc ?_ _) | (with_reducible refine Ext.drew ?_) | (with_reducible refine Ext.drewN ?_ _) | (with_reducible refine Ext.setCell ?_ ?_ _) | (with_reducible refine Ext.trans ?_ (by assumption)))) <;> (first | (with_reducible assumption) | omega | (simp; done) | (simp; omega))), ?_, ?_, by simp, ?_⟩
    · exact ((Arr.new w (rw m) _ rfl).alloc _ (by simp)).alloc _ (by simp; omega)
    · exact (Arr.new _ (rw n) _ (by simp)).alloc _ (by simp)
    · exact own_empty _ 33 2 _ (by simp) (by simp)
  case round =>
    obtain ⟨k, hk, rfl, hx, ha, hb, hz, ho⟩ := hrel
    obtain ⟨wo, rfl⟩ : ∃ wo : World, wo = wr := ⟨_, rfl⟩
    have HA := Lib.hid ha
    have HB := Lib.hid hb
    have HO := Lib.hid ho
    clear ha hb ho
    by_cases hlt : k < 36
    · obtain ⟨⟨c0, c1, c2, c3, c4, c5⟩, _⟩ := HA.out.all
      obtain ⟨⟨d0, d1, d2, d3, d4, d5⟩, _⟩ := HB.out.all
      have za : w.heap.size < wo.heap.size := by omega
      have zb : w.heap.size + 1 < wo.heap.size := by omega
      have hle := fl_le (opP m n) k
      have H1 := Lib.hid (fun w => l2At_n m (k % 6) (k / 6) (by omega) (by omega) w)
      have H2 := Lib.hid (fun w => l2Part_n (sh m (k % 6) (k / 6)) n (sh_lt _ _ _) _ (rfl : opP m n k = _) w)
      have q1 : (k : Int) % 6 = ((k % 6 : Nat) : Int) := by omega
      have q2 : (k : Int) / 6 = ((k / 6 : Nat) : Int) := by omega
      have Q := Lib.hid (show pxy [k] = [.int .i64 ((k % 6 : Nat) : Int), .int .i64 ((k / 6 : Nat) : Int)] from rfl)
      cases hp : opP m n k
      · rw [hp] at H2
        have e := fl_miss hp
        rw [← e] at HO
        clear hp e
        generalize k % 6 = kx at *
        generalize k / 6 = ky at *
        go_wp2
        refine wp_calm0 (by kernel_rfl) (by kernel_rfl) ?_; intro hgr; (refine walkQ_step (fun K hK => ?_); go_simp; (try (go_ints; try go_simp)); first | (refine hK _ ?_; clear hK K) | (apply Exists.intro; refine ⟨fun _ => ?_, hK _ ?_⟩; (first | (go_at_call 154; exact (H1.out _)) | (go_at_call 155; exact (H2.out _))); clear hK K) | (simp only [↓IntWalk.iteOmega]; (try go_simp); (try (go_ints; try go_simp)); first | (refine hK _ ?_; clear hK K) | (apply Exists.intro; refine ⟨fun _ => ?_, hK _ ?_⟩; (first | (go_at_call 154; exact (H1.out _)) | (go_at_call 155; exact (H2.out _))); clear hK K))); (refine walkQ_step (fun K hK => ?_); go_simp; (try (go_ints; try go_simp)); first | (refine hK _ ?_; clear hK K) | (apply Exists.intro; refine ⟨fun _ => ?_, hK _ ?_⟩; (first | (go_at_call 154; exact (H1.out _)) | (go_at_call 155; exact (H2.out _))); clear hK K) | (simp only [↓IntWalk.iteOmega]; (try go_simp); (try (go_ints; try go_simp)); first | (refine hK _ ?_; clear hK K) | (apply Exists.intro; refine ⟨fun _ => ?_, hK _ ?_⟩; (first | (go_at_call 154; exact (H1.out _)) | (go_at_call 155; exact (H2.out _))); clear hK K))); (refine walkQ_step (fun K hK => ?_); go_simp; (try (go_ints; try go_simp)); first | (refine hK _ ?_; clear hK K) | (apply Exists.intro; refine ⟨fun _ => ?_, hK _ ?_⟩; (first | (go_at_call 154; exact (H1.out _)) | (go_at_call 155; exact (H2.out _))); clear hK K) | (simp only [↓IntWalk.iteOmega]; (try go_simp); (try (go_ints; try go_simp)); first | (refine hK _ ?_; clear hK K) | (apply Exists.intro; refine ⟨fun _ => ?_, hK _ ?_⟩; (first | (go_at_call 154; exact (H1.out _)) | (go_at_call 155; exact (H2.out _))); clear hK K))); (refine walkQ_step (fun K hK => ?_); go_simp; (try (go_ints; try go_simp)); first | (refine hK _ ?_; clear hK K) | (apply Exists.intro; refine ⟨fun _ => ?_, hK _ ?_⟩; (first | (go_at_call 154; exact (H1.out _)) | (go_at_call 155; exact (H2.out _))); clear hK K) | (simp only [↓IntWalk.iteOmega]; (try go_simp); (try (go_ints; try go_simp)); first | (refine hK _ ?_; clear hK K) | (apply Exists.intro; refine ⟨fun _ => ?_, hK _ ?_⟩; (first | (go_at_call 154; exact (H1.out _)) | (go_at_call 155; exact (H2.out _))); clear hK K))); (refine walkQ_step (fun K hK => ?_); go_simp; (try (go_ints; try go_simp)); first | (refine hK _ ?_; clear hK K) | (apply Exists.intro; refine ⟨fun _ => ?_, hK _ ?_⟩; (first | (go_at_call 154; exact (H1.out _)) | (go_at_call 155; exact (H2.out _))); clear hK K) | (simp only [↓IntWalk.iteOmega]; (try go_simp); (try (go_ints; try go_simp)); first | (refine hK _ ?_; clear hK K) | (apply Exists.intro; refine ⟨fun _ => ?_, hK _ ?_⟩; (first | (go_at_call 154; exact (H1.out _)) | (go_at_call 155; exact (H2.out _))); clear hK K))); refine walkQ_nil ?_; clear hgr; intro w1 hE; have hc2 := hE.cells; have hf2 := hE.frees; have hz2 := hE.size
        have hE2 : Ext wo w1 := (((Ext.refl wo).alloc _).drew).trans hE
        have hs := hE2.size
        clear hE
        go_wp2
        refine ⟨⟨k + 1, by omega, by go_num, (by (repeat' (first | (with_reducible exact Ext.refl _) | (with_reducible assumption) | (with_reducible refine Ext.alloc ?_ _) | (with_reducible refine Ext.drew ?_) | (with_reducible refine Ext.drewN ?_ _) | (with_reducible refine Ext.setCell ?_ ?_ _) | (with_reducible refine Ext.trans ?_ (by assumption)))) <;> (first | (with_reducible assumption) | omega | (simp; done) | (simp; omega))), HA.out.ext hE2 za, HB.out.ext hE2 zb, by omega, own_ext HO.out hE2⟩, by simp [intOf]; omega⟩
      · rw [hp] at H2
        have e := Lib.hid (fl_hit hp)
        clear hp
        generalize k % 6 = kx at *
        generalize k / 6 = ky at *
        go_wp2
        refine wp_calm0 (by kernel_rfl) (by kernel_rfl) ?_; intro hgr; (refine walkQ_step (fun K hK => ?_); go_simp; (try (go_ints; try go_simp)); first | (refine hK _ ?_; clear hK K) | (apply Exists.intro; refine ⟨fun _ => ?_, hK _ ?_⟩; (first | (go_at_call 154; exact (H1.out _)) | (go_at_call 155; exact (H2.out _))); clear hK K) | (simp only [↓IntWalk.iteOmega]; (try go_simp); (try (go_ints; try go_simp)); first | (refine hK _ ?_; clear hK K) | (apply Exists.intro; refine ⟨fun _ => ?_, hK _ ?_⟩; (first | (go_at_call 154; exact (H1.out _)) | (go_at_call 155; exact (H2.out _))); clear hK K))); (refine walkQ_step (fun K hK => ?_); go_simp; (try (go_ints; try go_simp)); first | (refine hK _ ?_; clear hK K) | (apply Exists.intro; refine ⟨fun _ => ?_, hK _ ?_⟩; (first | (go_at_call 154; exact (H1.out _)) | (go_at_call 155; exact (H2.out _))); clear hK K) | (simp only [↓IntWalk.iteOmega]; (try go_simp); (try (go_ints; try go_simp)); first | (refine hK _ ?_; clear hK K) | (apply Exists.intro; refine ⟨fun _ => ?_, hK _ ?_⟩; (first | (go_at_call 154; exact (H1.out _)) | (go_at_call 155; exact (H2.out _))); clear hK K))); (refine walkQ_step (fun K hK => ?_); go_simp; (try (go_ints; try go_simp)); first | (refine hK _ ?_; clear hK K) | (apply Exists.intro; refine ⟨fun _ => ?_, hK _ ?_⟩; (first | (go_at_call 154; exact (H1.out _)) | (go_at_call 155; exact (H2.out _))); clear hK K) | (simp only [↓IntWalk.iteOmega]; (try go_simp); (try (go_ints; try go_simp)); first | (refine hK _ ?_; clear hK K) | (apply Exists.intro; refine ⟨fun _ => ?_, hK _ ?_⟩; (first | (go_at_call 154; exact (H1.out _)) | (go_at_call 155; exact (H2.out _))); clear hK K))); (refine walkQ_step (fun K hK => ?_); go_simp; (try (go_ints; try go_simp)); first | (refine hK _ ?_; clear hK K) | (apply Exists.intro; refine ⟨fun _ => ?_, hK _ ?_⟩; (first | (go_at_call 154; exact (H1.out _)) | (go_at_call 155; exact (H2.out _))); clear hK K) | (simp only [↓IntWalk.iteOmega]; (try go_simp); (try (go_ints; try go_simp)); first | (refine hK _ ?_; clear hK K) | (apply Exists.intro; refine ⟨fun _ => ?_, hK _ ?_⟩; (first | (go_at_call 154; exact (H1.out _)) | (go_at_call 155; exact (H2.out _))); clear hK K))); (refine walkQ_step (fun K hK => ?_); go_simp; (try (go_ints; try go_simp)); first | (refine hK _ ?_; clear hK K) | (apply Exists.intro; refine ⟨fun _ => ?_, hK _ ?_⟩; (first | (go_at_call 154; exact (H1.out _)) | (go_at_call 155; exact (H2.out _))); clear hK K) | (simp only [↓IntWalk.iteOmega]; (try go_simp); (try (go_ints; try go_simp)); first | (refine hK _ ?_; clear hK K) | (apply Exists.intro; refine ⟨fun _ => ?_, hK _ ?_⟩; (first | (go_at_call 154; exact (H1.out _)) | (go_at_call 155; exact (H2.out _))); clear hK K))); refine walkQ_nil ?_; clear hgr; intro w1 hE; have hc2 := hE.cells; have hf2 := hE.frees; have hz2 := hE.size
        have hE2 : Ext wo w1 := (((Ext.refl wo).alloc _).drew).trans hE
        have p1 : w1.cell? ⟨wo.heap.size, 0, none⟩ = some (.int .i64 (kx : Int)) := (hE.cells wo.heap.size 0 (by simp)).trans (by go_simp)
        have p2 : w1.cell? ⟨wo.heap.size, 1, none⟩ = some (.int .i64 (ky : Int)) := (hE.cells wo.heap.size 1 (by simp)).trans (by go_simp)
        have hs := hE2.size
        have HO1 := Lib.hid (own_ext HO.out hE2)
        clear hE
        go_wp2_with (at_builtin; refine wpList_append_own _ rfl _ _ 28 rfl (w.heap.size + 2) 33 i0 (.agg #[.int .i64 0, .int .i64 0]) 2 16 Try.underlying28 hi iz0 iz1 iz2 rfl (by decide) _ _ _ rfl (HO1.out.alloc _) ⟨_, 0, none⟩ 1 1 [.int .i64 (kx : Int), .int .i64 (ky : Int)] rfl rfl two_cells (by simp [Value.oneCell']) (by unfold maxLen; omega) (by omega) (by simp; omega) ?_; intro v1 w2 hown hgrow _)
        have HP := Lib.hid (own_push (hx.trans hE2) (by omega) HO1.out hgrow)
        have hs2 := hgrow.size
        refine ⟨⟨k + 1, by omega, by go_num, HP.out.1, HP.out.2 _ _ (by omega) (by omega) (HA.out.ext hE2 za), HP.out.2 _ _ (by omega) (by omega) (HB.out.ext hE2 zb), by simp at hs2; omega, ?_⟩, by simp [intOf]; omega⟩
        rw [e.out, List.length_append, pxy_append, Q.out]
        exact hown
    · obtain rfl : k = 36 := by omega
      go_wp2
      go_returns
      exact ⟨_, rfl, (by (repeat' (first | (with_reducible exact Ext.refl _) | (with_reducible assumption) | (with_reducible refine Ext.alloc ?_ _) | (with_reducible refine Ext.drew ?_) | (with_reducible refine Ext.drewN ?_ _) | (with_reducible refine Ext.setCell ?_ ?_ _) | (with_reducible refine Ext.trans ?_ (by assumption)))) <;> (first | (with_reducible assumption) | omega | (simp; done) | (simp; omega))), own_mono HO.out (by omega)⟩
theorem open1_any (m n k : Nat) (hn : n < 68719476736) (hm : m < 68719476736) (hk : k < 36) (x y : Nat) (w : World) (hx : x < w.heap.size) (hy : y < w.heap.size) (h1 : w.cell? ⟨x, 0, none⟩ = some (.int .u64 (m : Int))) (h2 : w.cell? ⟨y, 0, none⟩ = some (.int .u64 (n : Int))) :
    Calls Try.prog 149 #[.int .i64 (k : Int), .pointer (some ⟨x, 0, none⟩), .pointer (some ⟨y, 0, none⟩)] w fun e w' => e = .returned (.bool (opP m n k)) ∧ Ext w w' := by
  have HP := Lib.hid (fun w => pressed_any m k hm hk w)
  unfold opP
  have hz := sh_lt m (k % 6) (k / 6)
  generalize sh m (k % 6) (k / 6) = z at *
  have e64 := andn64s hz hn
  generalize z &&& cmp n = q at *
  skip
  go_enter Try.func149, Try.ntmps149
  go_wp2
  refine wp_calm0 (by kernel_rfl) (by kernel_rfl) ?_; intro hgr; (refine walkQ_step (fun K hK => ?_); go_simp; (try (go_ints; try go_simp)); first | (refine hK _ ?_; clear hK K) | (apply Exists.intro; refine ⟨fun _ => ?_, hK _ ?_⟩; ((go_at_call 97; exact (HP.out _))); clear hK K) | (simp only [↓IntWalk.iteOmega]; (try go_simp); (try (go_ints; try go_simp)); first | (refine hK _ ?_; clear hK K) | (apply Exists.intro; refine ⟨fun _ => ?_, hK _ ?_⟩; ((go_at_call 97; exact (HP.out _))); clear hK K))); (refine walkQ_step (fun K hK => ?_); go_simp; (try (go_ints; try go_simp)); first | (refine hK _ ?_; clear hK K) | (apply Exists.intro; refine ⟨fun _ => ?_, hK _ ?_⟩; ((go_at_call 97; exact (HP.out _))); clear hK K) | (simp only [↓IntWalk.iteOmega]; (try go_simp); (try (go_ints; try go_simp)); first | (refine hK _ ?_; clear hK K) | (apply Exists.intro; refine ⟨fun _ => ?_, hK _ ?_⟩; ((go_at_call 97; exact (HP.out _))); clear hK K))); (refine walkQ_step (fun K hK => ?_); go_simp; (try (go_ints; try go_simp)); first | (refine hK _ ?_; clear hK K) | (apply Exists.intro; refine ⟨fun _ => ?_, hK _ ?_⟩; ((go_at_call 97; exact (HP.out _))); clear hK K) | (simp only [↓IntWalk.iteOmega]; (try go_simp); (try (go_ints; try go_simp)); first | (refine hK _ ?_; clear hK K) | (apply Exists.intro; refine ⟨fun _ => ?_, hK _ ?_⟩; ((go_at_call 97; exact (HP.out _))); clear hK K))); (refine walkQ_step (fun K hK => ?_); go_simp; (try (go_ints; try go_simp)); first | (refine hK _ ?_; clear hK K) | (apply Exists.intro; refine ⟨fun _ => ?_, hK _ ?_⟩; ((go_at_call 97; exact (HP.out _))); clear hK K) | (simp only [↓IntWalk.iteOmega]; (try go_simp); (try (go_ints; try go_simp)); first | (refine hK _ ?_; clear hK K) | (apply Exists.intro; refine ⟨fun _ => ?_, hK _ ?_⟩; ((go_at_call 97; exact (HP.out _))); clear hK K))); (refine walkQ_step (fun K hK => ?_); go_simp; (try (go_ints; try go_simp)); first | (refine hK _ ?_; clear hK K) | (apply Exists.intro; refine ⟨fun _ => ?_, hK _ ?_⟩; ((go_at_call 97; exact (HP.out _))); clear hK K) | (simp only [↓IntWalk.iteOmega]; (try go_simp); (try (go_ints; try go_simp)); first | (refine hK _ ?_; clear hK K) | (apply Exists.intro; refine ⟨fun _ => ?_, hK _ ?_⟩; ((go_at_call 97; exact (HP.out _))); clear hK K))); (refine walkQ_step (fun K hK => ?_); go_simp; (try (go_ints; try go_simp)); first | (refine hK _ ?_; clear hK K) | (apply Exists.intro; refine ⟨fun _ => ?_, hK _ ?_⟩; ((go_at_call 97; exact (HP.out _))); clear hK K) | (simp only [↓IntWalk.iteOmega]; (try go_simp); (try (go_ints; try go_simp)); first | (refine hK _ ?_; clear hK K) | (apply Exists.intro; refine ⟨fun _ => ?_, hK _ ?_⟩; ((go_at_call 97; exact (HP.out _))); clear hK K))); (refine walkQ_step (fun K hK => ?_); go_simp; (try (go_ints; try go_simp)); first | (refine hK _ ?_; clear hK K) | (apply Exists.intro; refine ⟨fun _ => ?_, hK _ ?_⟩; ((go_at_call 97; exact (HP.out _))); clear hK K) | (simp only [↓IntWalk.iteOmega]; (try go_simp); (try (go_ints; try go_simp)); first | (refine hK _ ?_; clear hK K) | (apply Exists.intro; refine ⟨fun _ => ?_, hK _ ?_⟩; ((go_at_call 97; exact (HP.out _))); clear hK K))); refine walkQ_nil ?_; clear hgr; intro w1 hE; have hc2 := hE.cells; have hf2 := hE.frees; have hz2 := hE.size
  replace hE : Ext w w1 := ((Ext.refl w).drew).trans hE
  go_wp2
  go_returns
  exact ⟨ret_bool (by rw [Bool.eq_iff_iff]; simp; try omega), (by (repeat' (first | (with_reducible exact Ext.refl _) | (with_reducible assumption) | (with_reducible refine Ext.alloc ?_ _) | (with_reducible refine Ext.drew ?_) | (with_reducible refine Ext.drewN ?_ _) | (with_reducible refine Ext.setCell ?_ ?_ _) | (with_reducible refine Ext.trans ?_ (by assumption)))) <;> (first | (with_reducible assumption) | omega | (simp; done) | (simp; omega)))⟩
theorem open_n (m n : Nat) (hn : n < 68719476736) (hm : m < 68719476736) (w : World) : Calls Try.prog 107 #[.int .u64 (m : Int), .int .u64 (n : Int)] w fun e w' => ∃ v, e = .returned v ∧ Ext w w' ∧ w'.ownsRow w.heap.size 3 1 v (fl (opP m n) 36).length (ints (fl (opP m n) 36)) := by
  have HW := Lib.hid (fun (x y : Nat) (w : World) (hx : x < w.heap.size) (hy : y < w.heap.size) (h1 : w.cell? ⟨x, 0, none⟩ = some (.int .u64 (m : Int))) (h2 : w.cell? ⟨y, 0, none⟩ = some (.int .u64 (n : Int))) =>
    where_any 149 #[.pointer (some ⟨x, 0, none⟩), .pointer (some ⟨y, 0, none⟩)] (opP m n) w Try.call149 fun k hk w' hE =>
      open1_any m n k hn hm hk x y w' (Nat.lt_of_lt_of_le hx hE.size) (Nat.lt_of_lt_of_le hy hE.size) ((hE.cells _ _ hx).trans h1) ((hE.cells _ _ hy).trans h2))
  have HL := Lib.hid (fun w => list_n (mkN (opP m n) 36) (mk36_lt _) w)
  rw [fl_mk] at HL
  generalize fl (opP m n) 36 = L at *
  generalize mkN (opP m n) 36 = R at *
  go_enter Try.func107, Try.ntmps107
  go_wp2_with (first | (go_at_call 92; refine (HW.out w.heap.size (w.heap.size + 1) _ (by simp; omega) (by simp) (by go_simp) (by go_simp)).mono ?_; rintro e w1 ⟨rfl, hE⟩; have hsz := hE.size; obtain ⟨wa, rfl⟩ : ∃ x, x = w1 := ⟨_, rfl⟩) | (go_at_call 150; refine (HL.out _).mono ?_; rintro e w1 ⟨v, rfl, hE, ho⟩))
  go_returns
  exact ⟨_, rfl, (by (repeat' (first | (with_reducible exact Ext.refl _) | (with_reducible assumption) | (with_reducible refine Ext.alloc ?_ _) | (with_reducible refine Ext.drew ?_) | (with_reducible refine Ext.drewN ?_ _) | (with_reducible refine Ext.setCell ?_ ?_ _) | (with_reducible refine Ext.trans ?_ (by assumption)))) <;> (first | (with_reducible assumption) | omega | (simp; done) | (simp; omega))), own_mono ho (by simp at hsz; omega)⟩
end Go.Proofs.Ytlifhoajamnehaa
