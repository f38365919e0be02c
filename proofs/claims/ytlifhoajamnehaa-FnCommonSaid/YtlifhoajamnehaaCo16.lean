/- CntM TabM FCom VLst0: contracts of functions, and lemmas, for this seat. Conditions: as each states. -/
import Derived.Test.YtlifhoajamnehaaCo15
import Derived.Test.YtlifhoajamnehaaCo11
import Derived.Test.YtlifhoajamnehaaCo12
import Derived.Test.YtlifhoajamnehaaCo13
import Derived.Test.YtlifhoajamnehaaCo14
import Derived.Test.YtlifhoajamnehaaCo03
import Derived.Test.YtlifhoajamnehaaCo04
set_option linter.unusedVariables false
set_option linter.unusedSimpArgs false
set_option maxRecDepth 100000
set_option maxHeartbeats 1000000
namespace Go.Proofs.Ytlifhoajamnehaa
/-! counting over all shifts -/
theorem cnt_filter (n : Nat) : cnt n = ((List.range 36).filter n.testBit).length := (lst_length n 36).symm
theorem sum_0 : ∀ l : List Nat, (l.map fun _ => 0).sum = 0
  | [] => rfl
  | x :: l => by rw [List.map_cons, List.sum_cons, sum_0 l]
theorem sum_add (f g : Nat → Nat) : ∀ l : List Nat, (l.map f).sum + (l.map g).sum = (l.map fun y => f y + g y).sum
  | [] => rfl
  | y :: l => by
    have := sum_add f g l
    simp only [List.map_cons, List.sum_cons]
    omega
theorem sum_swap (f : Nat → Nat → Nat) : ∀ (l l2 : List Nat), (l.map fun x => (l2.map fun y => f x y).sum).sum = (l2.map fun y => (l.map fun x => f x y).sum).sum
  | [], l2 => by
    simp only [List.map_nil, List.sum_nil]
    exact (sum_0 l2).symm
  | x :: l, l2 => by
    rw [List.map_cons, List.sum_cons, sum_swap f l l2, sum_add]
    simp only [List.map_cons, List.sum_cons]
theorem len_sum (p : Nat → Bool) (l : List Nat) : (l.filter p).length = (l.map fun x => if p x = true then 1 else 0).sum := by rw [sum_if]; omega
theorem src_permA : ∀ j, j < 36 → ((List.range 36).map fun k => src (k % 6) (k / 6) j).isPerm (List.range 36) = true := by decide +kernel
theorem sum_cnt (s : Nat → Nat → Nat) (hs : ∀ j, j < 36 → ((List.range 36).map fun k => s k j).isPerm (List.range 36) = true) (n m : Nat) (f : Nat → Nat)
    (hf : ∀ k, k < 36 → f k = ((List.range 36).filter fun j => n.testBit j && m.testBit (s k j)).length) : ((List.range 36).map f).sum = cnt n * cnt m := by
  have e1 : (List.range 36).map f = (List.range 36).map fun k => ((List.range 36).map fun j => if (n.testBit j && m.testBit (s k j)) = true then 1 else 0).sum :=
    List.map_congr_left fun k hk => by rw [hf k (List.mem_range.1 hk), len_sum]
  rw [e1, sum_swap]
  have e2 : ((List.range 36).map fun j => ((List.range 36).map fun k => if (n.testBit j && m.testBit (s k j)) = true then 1 else 0).sum) = (List.range 36).map fun j => if n.testBit j = true then cnt m else 0 :=
    List.map_congr_left fun j hj => by
      cases h : n.testBit j
      · simp only [Bool.false_and, Bool.false_eq_true, if_false]
        exact sum_0 _
      · simp only [Bool.true_and, if_true]
        rw [← len_sum (fun k => m.testBit (s k j)), cnt_filter]
        have hp := List.isPerm_iff.1 (hs j (List.mem_range.1 hj))
        rw [← (hp.filter m.testBit).length_eq, List.filter_map, List.length_map]
        rfl
  rw [e2, sum_if, ← cnt_filter, Nat.mul_comm]
theorem cnt_and_sh (n m x y : Nat) : cnt (n &&& sh m x y) = ((List.range 36).filter fun j => n.testBit j && m.testBit (src x y j)).length := by
  rw [cnt_filter]
  refine congrArg List.length (List.filter_congr fun j hj => ?_)
  rw [Nat.testBit_and, testBit_sh _ _ _ _ (List.mem_range.1 hj)]
/-- the cells in common at all cells -/
theorem sum_common (n m : Nat) : ((List.range 36).map fun k => cnt (n &&& sh m (k % 6) (k / 6))).sum = cnt n * cnt m :=
  sum_cnt (fun k j => src (k % 6) (k / 6) j) src_permA n m _ fun k _ => cnt_and_sh n m _ _
end Go.Proofs.Ytlifhoajamnehaa
set_option linter.unusedVariables false
set_option linter.unusedSimpArgs false
set_option maxRecDepth 100000
set_option maxHeartbeats 1000000
namespace Go.Proofs.Ytlifhoajamnehaa
/-! tables of how often a number is told -/
def tb6 (f : Nat → Nat) (c : Nat) : Nat := ((List.range 36).filter fun j => decide (c = f j)).length
def sA (t : Nat → Nat) : Nat → Nat
  | 0 => 0
  | n + 1 => sA t n + t n
def sB (t : Nat → Nat) : Nat → Nat
  | 0 => 0
  | n + 1 => sB t n + n * t n
def tpN (t : Nat → Nat) : Nat → Nat
  | 0 => 0
  | n + 1 => if 0 < t n then n else tpN t n
theorem sA_sum (t : Nat → Nat) : ∀ n, sA t n = ((List.range n).map t).sum
  | 0 => rfl
  | n + 1 => by rw [sA, sA_sum t n, List.range_succ, List.map_append, List.sum_append]; simp
theorem sB_sum (t : Nat → Nat) : ∀ n, sB t n = ((List.range n).map fun c => c * t c).sum
  | 0 => rfl
  | n + 1 => by rw [sB, sB_sum t n, List.range_succ, List.map_append, List.sum_append]; simp
theorem one_at (v : Nat) (g : Nat → Nat) : ∀ n, ((List.range n).map fun c => if decide (c = v) = true then g c else 0).sum = if v < n then g v else 0
  | 0 => rfl
  | n + 1 => by
    rw [List.range_succ, List.map_append, List.sum_append, one_at v g n]
    simp only [List.map_cons, List.map_nil, List.sum_cons, List.sum_nil, Nat.add_zero, decide_eq_true_eq]
    by_cases h1 : v < n
    · rw [if_pos h1, if_neg (by omega), if_pos (by omega)]; omega
    · by_cases h2 : n = v
      · subst h2; rw [if_neg h1, if_pos rfl, if_pos (by omega)]; omega
      · rw [if_neg h1, if_neg h2, if_neg (by omega)]
theorem sA_tb (f : Nat → Nat) (hf : ∀ j, j < 36 → f j ≤ 36) : sA (tb6 f) 37 = 36 := by
  rw [sA_sum]
  have e : (List.range 37).map (tb6 f) = (List.range 37).map fun c => ((List.range 36).map fun j => if decide (c = f j) = true then 1 else 0).sum :=
    List.map_congr_left fun c _ => by unfold tb6; rw [len_sum]
  rw [e, sum_swap]
  have e2 : ((List.range 36).map fun j => ((List.range 37).map fun c => if decide (c = f j) = true then 1 else 0).sum) = (List.range 36).map fun _ => 1 :=
    List.map_congr_left fun j hj => by rw [one_at (f j) (fun _ => 1) 37, if_pos (by have := hf j (List.mem_range.1 hj); omega)]
  rw [e2]
  decide
theorem mul_if (c : Nat) (l : List Nat) (p : Nat → Bool) : c * (l.map fun j => if p j = true then 1 else 0).sum = (l.map fun j => if p j = true then c else 0).sum := by rw [sum_if, sum_if]; rw [Nat.one_mul]
theorem sB_tb (f : Nat → Nat) (hf : ∀ j, j < 36 → f j ≤ 36) : sB (tb6 f) 37 = ((List.range 36).map f).sum := by
  rw [sB_sum]
  have e : ((List.range 37).map fun c => c * tb6 f c) = (List.range 37).map fun c => ((List.range 36).map fun j => if decide (c = f j) = true then c else 0).sum :=
    List.map_congr_left fun c _ => by unfold tb6; rw [len_sum, mul_if]
  rw [e, sum_swap]
  refine congrArg List.sum (List.map_congr_left fun j hj => ?_)
  rw [one_at (f j) (fun c => c) 37, if_pos (by have := hf j (List.mem_range.1 hj); omega)]
theorem tb_pos (f : Nat → Nat) (c : Nat) : 0 < tb6 f c ↔ ∃ j, j < 36 ∧ f j = c := by
  unfold tb6
  rw [List.length_pos_iff_exists_mem]
  constructor
  · rintro ⟨j, hj⟩
    obtain ⟨h1, h2⟩ := List.mem_filter.1 hj
    exact ⟨j, List.mem_range.1 h1, (of_decide_eq_true h2).symm⟩
  · rintro ⟨j, h1, h2⟩
    exact ⟨j, List.mem_filter.2 ⟨List.mem_range.2 h1, decide_eq_true h2.symm⟩⟩
theorem tpN_of (t : Nat → Nat) (v : Nat) (hv : 0 < t v) : ∀ n, v < n → (∀ c, v < c → c < n → t c = 0) → tpN t n = v
  | 0, h, _ => absurd h (Nat.not_lt_zero _)
  | n + 1, h, hz => by
    rw [tpN]
    by_cases e : n = v
    · subst e; rw [if_pos hv]
    · rw [if_neg (by have := hz n (by omega) (by omega); omega)]
      exact tpN_of t v hv n (by omega) fun c h1 h2 => hz c h1 (by omega)
/-- the top of a table is the greatest number told -/
theorem tp_tb (f : Nat → Nat) (j0 : Nat) (h0 : j0 < 36) (hf : f j0 ≤ 36) (hm : ∀ j, j < 36 → f j ≤ f j0) : tpN (tb6 f) 37 = f j0 := by
  refine tpN_of _ _ ((tb_pos f _).2 ⟨j0, h0, rfl⟩) 37 (by omega) fun c h1 h2 => ?_
  have h3 : ¬ 0 < tb6 f c := fun h => by
    obtain ⟨j, hj, e⟩ := (tb_pos f c).1 h
    have := hm j hj
    omega
  omega
/-- fractions -/
theorem frac_eq (a b : Nat) (hb : 0 < b) : a * (b / Nat.gcd a b) = b * (a / Nat.gcd a b) := by
  have g1 := Nat.gcd_dvd_left a b
  have g2 := Nat.gcd_dvd_right a b
  rw [← Nat.mul_div_assoc a g2, ← Nat.mul_div_assoc b g1, Nat.mul_comm]
theorem frac_pos (a b : Nat) (hb : 0 < b) : 0 < a / Nat.gcd a b ↔ 0 < a := by
  constructor
  · intro h
    rcases Nat.eq_zero_or_pos a with rfl | h1
    · rw [Nat.zero_div] at h; exact absurd h (Nat.lt_irrefl _)
    · exact h1
  · intro h
    exact Nat.div_pos (Nat.le_of_dvd h (Nat.gcd_dvd_left a b)) (Nat.gcd_pos_of_pos_right a hb)
end Go.Proofs.Ytlifhoajamnehaa
set_option linter.unusedVariables false
set_option linter.unusedSimpArgs false
set_option maxRecDepth 100000
set_option maxHeartbeats 4000000
namespace Go.Proofs.Ytlifhoajamnehaa
open Go Go.RowKit Instr
theorem bst_is (n m : Nat) : ∀ k, 0 < k → k ≤ 36 → (bst n m k).1 < 36 ∧ (bst n m k).2 = (cm n m (bst n m k).1 : Int) ∧ ∀ j, j < k → (cm n m j : Int) ≤ (bst n m k).2
  | 0, h, _ => absurd h (Nat.lt_irrefl _)
  | k + 1, _, hk => by
    rw [bst]
    split
    · rename_i h
      refine ⟨by show k < 36; omega, rfl, fun j hj => ?_⟩
      show (cm n m j : Int) ≤ (cm n m k : Int)
      rcases Nat.lt_or_ge j k with h1 | h1
      · have := (bst_is n m k (by omega) (by omega)).2.2 j h1
        omega
      · obtain rfl : j = k := by omega
        exact Int.le_refl _
    · rename_i h
      rcases Nat.eq_zero_or_pos k with rfl | hp
      · exact absurd (show (-1 : Int) < (cm n m 0 : Int) by omega) h
      · obtain ⟨h1, h2, h3⟩ := bst_is n m k hp (by omega)
        refine ⟨h1, h2, fun j hj => ?_⟩
        rcases Nat.lt_or_ge j k with h4 | h4
        · exact h3 j h4
        · obtain rfl : j = k := by omega
          omega
def CmOk (r s : Nat → Int) (tab : Nat → Int) (f1 f2 p1 p2 m1 m2 cx cy mo : Int) : Prop :=
  ∃ (t : Nat → Nat) (X Y Z : Nat → Int) (sz Sm T0 : Int), tab = (fun c => (t c : Int)) ∧
    Cl 43 #[(.agg #[.int .i64 (r 0), .int .i64 (r 1), .int .i64 (r 2), .int .i64 (r 3), .int .i64 (r 4), .int .i64 (r 5)]), (.agg #[.int .i64 (s 0), .int .i64 (s 1), .int .i64 (s 2), .int .i64 (s 3), .int .i64 (s 4), .int .i64 (s 5)])] (.tuple #[(.agg #[.int .i64 (X 0), .int .i64 (X 1), .int .i64 (X 2), .int .i64 (X 3), .int .i64 (X 4), .int .i64 (X 5)]), .bool true]) ∧ Cl 44 #[(.agg #[.int .i64 (X 0), .int .i64 (X 1), .int .i64 (X 2), .int .i64 (X 3), .int .i64 (X 4), .int .i64 (X 5)])] (.tuple #[.int .i64 sz, .bool true]) ∧
    Cl 28 #[(.agg #[.int .i64 (s 0), .int .i64 (s 1), .int .i64 (s 2), .int .i64 (s 3), .int .i64 (s 4), .int .i64 (s 5)]), .int .i64 cx, .int .i64 cy] (.tuple #[(.agg #[.int .i64 (Y 0), .int .i64 (Y 1), .int .i64 (Y 2), .int .i64 (Y 3), .int .i64 (Y 4), .int .i64 (Y 5)]), .bool true]) ∧ Cl 45 #[(.agg #[.int .i64 (r 0), .int .i64 (r 1), .int .i64 (r 2), .int .i64 (r 3), .int .i64 (r 4), .int .i64 (r 5)]), (.agg #[.int .i64 (Y 0), .int .i64 (Y 1), .int .i64 (Y 2), .int .i64 (Y 3), .int .i64 (Y 4), .int .i64 (Y 5)])] (.tuple #[(.agg #[.int .i64 (Z 0), .int .i64 (Z 1), .int .i64 (Z 2), .int .i64 (Z 3), .int .i64 (Z 4), .int .i64 (Z 5)]), .bool true]) ∧
    Cl 44 #[(.agg #[.int .i64 (Z 0), .int .i64 (Z 1), .int .i64 (Z 2), .int .i64 (Z 3), .int .i64 (Z 4), .int .i64 (Z 5)])] (.tuple #[.int .i64 mo, .bool true]) ∧
    (∀ c, t c ≤ 36) ∧ sA t 37 = 36 ∧ ((sB t 37 : Nat) : Int) = Sm ∧ ((tpN t 37 : Nat) : Int) = mo ∧ ((t 0 : Nat) : Int) = T0 ∧
    (Sm * m2 = 36 * m1 ∧ 0 ≤ m1 ∧ m1 ≤ 1296) ∧ (sz * f2 = 36 * f1 ∧ 0 ≤ f1 ∧ f1 ≤ 36) ∧ (T0 * p2 = 36 * p1 ∧ 0 ≤ p1 ∧ p1 ≤ 36)
theorem cut_le (a b : Nat) : cut a b ≤ a := Nat.div_le_self _ _
theorem cmOk (n m : Nat) (hn : n < 68719476736) (hm : m < 68719476736) (N A : Nat) (hN : N = tbl (cm n m) 36 (cnt m)) (hA : A = tbl (cm n m) 36 0) :
    CmOk (rw n) (rw m) (tbI (cm n m) 36) (cut N 36 : Nat) (cutD N 36 : Nat) (cut A 36 : Nat) (cutD A 36 : Nat) (cut (cnt n * cnt m) 36 : Nat) (cutD (cnt n * cnt m) 36 : Nat)
      (((bst n m 36).1 % 6 : Nat) : Int) (((bst n m 36).1 / 6 : Nat) : Int) (bst n m 36).2 := by
  obtain ⟨b1, b2, b3⟩ := bst_is n m 36 (by decide) (by decide)
  generalize (bst n m 36).1 = b at *
  rw [b2] at b3 ⊢
  have ht : tbl (cm n m) 36 = tb6 (cm n m) := funext fun c => tbl_filter _ _ _
  have hle : ∀ j, j < 36 → cm n m j ≤ 36 := fun j _ => cm_le n m j
  have hN2 : cnt (shr n m) = N := by rw [hN, ← ft_tbl]; rfl
  have hsN : N ≤ 36 := hN2 ▸ cnt_le _
  have hsA : A ≤ 36 := by rw [hA]; exact tbl_le _ _ _
  have hnm : cnt n * cnt m ≤ 36 * 36 := Nat.mul_le_mul (cnt_le n) (cnt_le m)
  have c1 := cut_le N 36
  have c2 := cut_le A 36
  have c3 := cut_le (cnt n * cnt m) 36
  refine ⟨tbl (cm n m) 36, rw (shr n m), rw (sh m (b % 6) (b / 6)), rw (n &&& sh m (b % 6) (b / 6)), ((N : Nat) : Int), ((cnt n * cnt m : Nat) : Int), ((A : Nat) : Int), rfl, fun w => ShrinkSheet_ok n m hn hm w, fun w => ?_, fun w => ?_, fun w => BothOf_ok _ _ hn (sh_lt _ _ _) w, fun w => SizeOf_ok _ (and36 _ hn) w,
    fun c => tbl_le _ _ _, ?_, ?_, ?_, ?_, ⟨?_, by omega, by omega⟩, ⟨?_, by omega, by omega⟩, ⟨?_, by omega, by omega⟩⟩
  · rw [← hN2]; exact SizeOf_ok _ (shr_lt _ _) w
  · have := ShiftSheet_ok m hm ((b % 6 : Nat) : Int) ((b / 6 : Nat) : Int) w
    rw [show m6 ((b % 6 : Nat) : Int) = b % 6 by unfold m6; omega, show m6 ((b / 6 : Nat) : Int) = b / 6 by unfold m6; omega] at this
    exact this
  · rw [ht]; exact sA_tb _ hle
  · rw [ht, sB_tb _ hle]
    exact congrArg _ (sum_common n m)
  · rw [ht, tp_tb (cm n m) b b1 (cm_le n m b) fun j hj => by have := b3 j hj; omega]
  · rw [hA]
  · have := frac_eq (cnt n * cnt m) 36 (by decide)
    exact_mod_cast this
  · have := frac_eq N 36 (by decide)
    exact_mod_cast this
  · have := frac_eq A 36 (by decide)
    exact_mod_cast this
theorem cmF1 (r s : Nat → Int) (hr : Shy r) (hs : Shy s) : ∃ (tab : Nat → Int) (f1 f2 p1 p2 m1 m2 q1 q2 cx cy mo : Int) (ok two : Bool),
    (Cl 31 #[(.agg #[.int .i64 (r 0), .int .i64 (r 1), .int .i64 (r 2), .int .i64 (r 3), .int .i64 (r 4), .int .i64 (r 5)]), (.agg #[.int .i64 (s 0), .int .i64 (s 1), .int .i64 (s 2), .int .i64 (s 3), .int .i64 (s 4), .int .i64 (s 5)])] (.tuple #[.agg (av 37 tab), .bool ok]) ∧ Cl 32 #[(.agg #[.int .i64 (r 0), .int .i64 (r 1), .int .i64 (r 2), .int .i64 (r 3), .int .i64 (r 4), .int .i64 (r 5)]), (.agg #[.int .i64 (s 0), .int .i64 (s 1), .int .i64 (s 2), .int .i64 (s 3), .int .i64 (s 4), .int .i64 (s 5)])] (.tuple #[.agg (av 37 tab), .bool ok])) ∧
    (Cl 33 #[(.agg #[.int .i64 (r 0), .int .i64 (r 1), .int .i64 (r 2), .int .i64 (r 3), .int .i64 (r 4), .int .i64 (r 5)]), (.agg #[.int .i64 (s 0), .int .i64 (s 1), .int .i64 (s 2), .int .i64 (s 3), .int .i64 (s 4), .int .i64 (s 5)])] (.tuple #[(.agg #[.int .i64 (f1), .int .i64 (f2)]), .bool ok]) ∧ Cl 34 #[(.agg #[.int .i64 (r 0), .int .i64 (r 1), .int .i64 (r 2), .int .i64 (r 3), .int .i64 (r 4), .int .i64 (r 5)]), (.agg #[.int .i64 (s 0), .int .i64 (s 1), .int .i64 (s 2), .int .i64 (s 3), .int .i64 (s 4), .int .i64 (s 5)])] (.tuple #[(.agg #[.int .i64 (f1), .int .i64 (f2)]), .bool ok])) ∧
    (Cl 35 #[(.agg #[.int .i64 (r 0), .int .i64 (r 1), .int .i64 (r 2), .int .i64 (r 3), .int .i64 (r 4), .int .i64 (r 5)]), (.agg #[.int .i64 (s 0), .int .i64 (s 1), .int .i64 (s 2), .int .i64 (s 3), .int .i64 (s 4), .int .i64 (s 5)])] (.tuple #[(.agg #[.int .i64 (p1), .int .i64 (p2)]), .bool ok]) ∧ Cl 36 #[(.agg #[.int .i64 (r 0), .int .i64 (r 1), .int .i64 (r 2), .int .i64 (r 3), .int .i64 (r 4), .int .i64 (r 5)]), (.agg #[.int .i64 (s 0), .int .i64 (s 1), .int .i64 (s 2), .int .i64 (s 3), .int .i64 (s 4), .int .i64 (s 5)])] (.tuple #[(.agg #[.int .i64 (p1), .int .i64 (p2)]), .bool ok])) ∧
    (Cl 37 #[(.agg #[.int .i64 (r 0), .int .i64 (r 1), .int .i64 (r 2), .int .i64 (r 3), .int .i64 (r 4), .int .i64 (r 5)]), (.agg #[.int .i64 (s 0), .int .i64 (s 1), .int .i64 (s 2), .int .i64 (s 3), .int .i64 (s 4), .int .i64 (s 5)])] (.tuple #[(.agg #[.int .i64 (m1), .int .i64 (m2)]), .bool ok]) ∧ Cl 38 #[(.agg #[.int .i64 (r 0), .int .i64 (r 1), .int .i64 (r 2), .int .i64 (r 3), .int .i64 (r 4), .int .i64 (r 5)]), (.agg #[.int .i64 (s 0), .int .i64 (s 1), .int .i64 (s 2), .int .i64 (s 3), .int .i64 (s 4), .int .i64 (s 5)])] (.tuple #[(.agg #[.int .i64 (m1), .int .i64 (m2)]), .bool ok])) ∧
    (Cl 39 #[(.agg #[.int .i64 (r 0), .int .i64 (r 1), .int .i64 (r 2), .int .i64 (r 3), .int .i64 (r 4), .int .i64 (r 5)]), (.agg #[.int .i64 (s 0), .int .i64 (s 1), .int .i64 (s 2), .int .i64 (s 3), .int .i64 (s 4), .int .i64 (s 5)])] (.tuple #[(.agg #[.int .i64 (q1), .int .i64 (q2)]), .bool two]) ∧ Cl 40 #[(.agg #[.int .i64 (r 0), .int .i64 (r 1), .int .i64 (r 2), .int .i64 (r 3), .int .i64 (r 4), .int .i64 (r 5)]), (.agg #[.int .i64 (s 0), .int .i64 (s 1), .int .i64 (s 2), .int .i64 (s 3), .int .i64 (s 4), .int .i64 (s 5)])] (.tuple #[(.agg #[.int .i64 (q1), .int .i64 (q2)]), .bool two])) ∧
    (Cl 41 #[(.agg #[.int .i64 (r 0), .int .i64 (r 1), .int .i64 (r 2), .int .i64 (r 3), .int .i64 (r 4), .int .i64 (r 5)]), (.agg #[.int .i64 (s 0), .int .i64 (s 1), .int .i64 (s 2), .int .i64 (s 3), .int .i64 (s 4), .int .i64 (s 5)])] (.tuple #[(.agg #[.int .i64 (cx), .int .i64 (cy)]), .int .i64 mo, .bool ok]) ∧ Cl 42 #[(.agg #[.int .i64 (r 0), .int .i64 (r 1), .int .i64 (r 2), .int .i64 (r 3), .int .i64 (r 4), .int .i64 (r 5)]), (.agg #[.int .i64 (s 0), .int .i64 (s 1), .int .i64 (s 2), .int .i64 (s 3), .int .i64 (s 4), .int .i64 (s 5)])] (.tuple #[(.agg #[.int .i64 (cx), .int .i64 (cy)]), .int .i64 mo, .bool ok])) ∧
    ((ok = false ∧ two = false) ∨ (ok = true ∧ two = false ∧ f1 = 0 ∧ CmOk r s tab f1 f2 p1 p2 m1 m2 cx cy mo) ∨
      (ok = true ∧ two = true ∧ (0 < f1 ∧ q1 * f1 = q2 * f2 ∧ 0 ≤ q2 * f2 ∧ q2 * f2 ≤ 1296) ∧ CmOk r s tab f1 f2 p1 p2 m1 m2 cx cy mo)) := by
  cases h : (vs r && vs s)
  · exact ⟨fun _ => 0, 0, 0, 0, 0, 0, 0, 0, 0, 0, 0, 0, false, false, ⟨fun w => CommonTable_bad _ _ h w, fun w => sCommonTable_bad _ _ h w⟩, ⟨fun w => ChanceFits_bad _ _ h w, fun w => sChanceFits_bad _ _ h w⟩, ⟨fun w => ChanceApart_bad _ _ h w, fun w => sChanceApart_bad _ _ h w⟩,
      ⟨fun w => MeanCommon_bad _ _ h w, fun w => sMeanCommon_bad _ _ h w⟩, ⟨fun w => MeanWait_bad _ _ h w, fun w => sMeanWait_bad _ _ h w⟩, ⟨fun w => BestCell_bad _ _ h w, fun w => sBestCell_bad _ _ h w⟩, .inl ⟨rfl, rfl⟩⟩
  · rcases hs with h2 | ⟨m, hm, rfl⟩
    · rw [vs2_r h2] at h; cases h
    · rcases hr with h1 | ⟨n, hn, rfl⟩
      · rw [vs2_l h1] at h; cases h
      · obtain ⟨N, hN⟩ : ∃ N, N = tbl (cm n m) 36 (cnt m) := ⟨_, rfl⟩
        obtain ⟨A, hA⟩ : ∃ A, A = tbl (cm n m) 36 0 := ⟨_, rfl⟩
        have hok := cmOk n m hn hm N A hN hA
        have hsN : N ≤ 36 := by rw [hN]; exact tbl_le _ _ _
        rcases Nat.eq_zero_or_pos N with h0 | h0
        · refine ⟨_, _, _, _, _, _, _, 0, 0, _, _, _, true, false, ⟨fun w => CommonTable_ok n m hn hm w, fun w => sCommonTable_ok n m w⟩, ⟨fun w => ChanceFits_ok n m N hn hm hN w, fun w => sChanceFits_ok n m N hN w⟩, ⟨fun w => ChanceApart_ok n m A hn hm hA w, fun w => sChanceApart_ok n m A hA w⟩,
            ⟨fun w => MeanCommon_ok n m hn hm w, fun w => sMeanCommon_ok n m w⟩, ⟨fun w => MeanWait_zero n m hn hm (by rw [← hN]; exact h0) w, fun w => sMeanWait_zero n m (by rw [← hN]; exact h0) w⟩, ⟨fun w => BestCell_ok n m hn hm w, fun w => sBestCell_ok n m w⟩, .inr (.inl ⟨rfl, rfl, ?_, hok⟩)⟩
          subst h0
          have := cut_le 0 36
          omega
        · refine ⟨_, _, _, _, _, _, _, _, _, _, _, _, true, true, ⟨fun w => CommonTable_ok n m hn hm w, fun w => sCommonTable_ok n m w⟩, ⟨fun w => ChanceFits_ok n m N hn hm hN w, fun w => sChanceFits_ok n m N hN w⟩, ⟨fun w => ChanceApart_ok n m A hn hm hA w, fun w => sChanceApart_ok n m A hA w⟩,
            ⟨fun w => MeanCommon_ok n m hn hm w, fun w => sMeanCommon_ok n m w⟩, ⟨fun w => MeanWait_ok n m N hn hm hN h0 w, fun w => sMeanWait_ok n m N hN h0 w⟩, ⟨fun w => BestCell_ok n m hn hm w, fun w => sBestCell_ok n m w⟩, .inr (.inr ⟨rfl, rfl, ⟨?_, ?_, ?_, ?_⟩, hok⟩)⟩
          · have := (frac_pos N 36 (by decide)).2 h0
            unfold cut
            omega
          · have e : cut 36 N * cut N 36 = cutD 36 N * cutD N 36 := by unfold cut cutD; rw [Nat.gcd_comm 36 N]; exact Nat.mul_comm _ _
            exact_mod_cast e
          · have e : (0 : Nat) ≤ cutD 36 N * cutD N 36 := Nat.zero_le _
            exact_mod_cast e
          · have e : cutD 36 N * cutD N 36 ≤ 36 * 36 := Nat.mul_le_mul (Nat.le_trans (Nat.div_le_self _ _) hsN) (Nat.div_le_self _ _)
            exact_mod_cast e
end Go.Proofs.Ytlifhoajamnehaa
set_option linter.unusedVariables false
set_option linter.unusedSimpArgs false
set_option maxRecDepth 100000
set_option maxHeartbeats 1000000
namespace Go.Proofs.Ytlifhoajamnehaa
open Go Go.RowKit Instr
theorem part_2 (a b : Int) (w : World) : (part 3 #[.int .i64 a, .int .i64 b] (0 * 1)).run Try.prog w = .ok (.int .i64 a) w ∧ (part 3 #[.int .i64 a, .int .i64 b] (1 * 1)).run Try.prog w = .ok (.int .i64 b) w := ⟨by kernel_rfl, by kernel_rfl⟩
theorem items2_eq (a b c d : Int) (w : World) : (Op.eqItems 9999 3 1 #[.int .i64 a, .int .i64 b] #[.int .i64 c, .int .i64 d] (List.range 2)).run Try.prog w = .ok (a == c && b == d) w := by
  rw [show List.range 2 = [0, 1] from rfl, Op.eqItems]
  simp only [Sem.run_bind, (part_2 a b w).1, (part_2 c d w).1, Result.andThen_ok]
  rw [run_equalIn_int w 9998 3 .i64 .i64 a c Try.underlying3]
  simp only [Result.andThen_ok]
  cases (a == c)
  · simp
  · simp only [Bool.not_true, Bool.false_eq_true, if_false, Bool.true_and]
    rw [Op.eqItems]
    simp only [Sem.run_bind, (part_2 a b w).2, (part_2 c d w).2, Result.andThen_ok]
    rw [run_equalIn_int w 9998 3 .i64 .i64 b d Try.underlying3]
    simp only [Result.andThen_ok]
    cases (b == d) <;> simp [Op.eqItems]
theorem neq2_is (a b c d : Int) (r : Bool) (h : (!(a == c && b == d)) = r) : ∀ w, (binOp .neq 33 (.agg #[.int .i64 (a), .int .i64 (b)]) (.agg #[.int .i64 (c), .int .i64 (d)])).run Try.prog w = .ok (.bool r) w := fun w => by
  rw [run_neq_struct, run_equalIn_array w 9999 _ _ Try.underlying33 (i := (Try.prog.info? 3).getD default) (by kernel_rfl), show Try.prog.cellsOf 3 = 1 by kernel_rfl, items2_eq, ← h]
  rfl
end Go.Proofs.Ytlifhoajamnehaa
