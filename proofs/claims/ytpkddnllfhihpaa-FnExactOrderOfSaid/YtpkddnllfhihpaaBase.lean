/- Base: contracts of functions, and lemmas, for this seat. Conditions: as each states. -/
import Derived.Test.YtpkddnllfhihpaaProg
import Derived.Test.YtpkddnllfhihpaaReg
import Derived.Test.YtpkddnllfhihpaaMath
import Derived.Outline
import Derived.Lib.Hide
import Derived.Laws.BitsAllLaws
set_option linter.unusedVariables false
namespace Go.Proofs.Ytpkddnllfhihpaa
open Go Go.RowKit
/-! words of the walks -/
theorem ret_int {k : IntKind} {a b : Int} (h : a = b) : Ending.returned (.int k a) = .returned (.int k b) := by rw [h]
theorem ret_bool {a b : Bool} (h : a = b) : Ending.returned (.bool a) = .returned (.bool b) := by rw [h]
theorem val_int {k : IntKind} {a b : Int} (h : a = b) : Value.int k a = .int k b := by rw [h]

theorem ret2_int {k : IntKind} {a b : Int} {v : Value} (h : a = b) : Ending.returned (.tuple #[.int k a, v]) = .returned (.tuple #[.int k b, v]) := by rw [h]
theorem ret2_ints {k j : IntKind} {a b c d : Int} (h : a = b) (h' : c = d) : Ending.returned (.tuple #[.int k a, .int j c]) = .returned (.tuple #[.int k b, .int j d]) := by rw [h, h']
theorem ret2_bool {a b : Bool} {v : Value} (h : a = b) : Ending.returned (.tuple #[.bool a, v]) = .returned (.tuple #[.bool b, v]) := by rw [h]
theorem nat_int {a b : Nat} (h : a = b) : (a : Int) = (b : Int) := by rw [h]

/-! numbers of the kind u64 -/
theorem or64 {a b : Nat} (ha : a < 68719476736) (hb : b < 68719476736) : bits .or .u64 (a : Int) (b : Int) = ((a ||| b : Nat) : Int) := u64_or_nat a b (by omega) (by omega)
theorem and64 {a b : Nat} (ha : a < 68719476736) (hb : b < 68719476736) : bits .and .u64 (a : Int) (b : Int) = ((a &&& b : Nat) : Int) := u64_and_nat a b (by omega) (by omega)
theorem xor64 {a b : Nat} (ha : a < 68719476736) (hb : b < 68719476736) : bits .xor .u64 (a : Int) (b : Int) = ((a ^^^ b : Nat) : Int) := u64_xor_nat a b (by omega) (by omega)

/-- what a bit test reads -/
theorem has_bit (n k : Nat) (hn : n < 68719476736) : (bits .and .u64 ((n : Int) / 2 ^ k) 1 == 1) = n.testBit k := by
  have e : ((n : Int) / 2 ^ k) = ((n / 2 ^ k : Nat) : Int) := by simp
  have hle : n / 2 ^ k ≤ n := Nat.div_le_self _ _
  rw [e, show (1 : Int) = ((1 : Nat) : Int) from rfl, u64_and_nat _ _ (by omega) (by omega), nat_mask1, Nat.testBit_eq_decide_div_mod_eq, Bool.eq_iff_iff]
  simp
  omega
theorem bit_put (k : Nat) (hk : k < 36) : IntKind.u64.wrap (2 ^ k) = ((2 ^ k : Nat) : Int) := by
  have := pow36 hk
  rw [show ((2 : Int) ^ k) = ((2 ^ k : Nat) : Int) by simp]
  refine IntWalk.u64_in _ ⟨Int.natCast_nonneg _, ?_⟩
  generalize 2 ^ k = m at *
  omega
/-- what is left by 6 -/
def m6 (n : Int) : Nat := (n % 6).toNat
theorem m6_lt (n : Int) : m6 n < 6 := by unfold m6; omega
theorem m6_eq (n : Int) : ((m6 n : Nat) : Int) = n % 6 := by unfold m6; omega
theorem rest_val (n : Int) : (wrap64 (n.tmod 6 + 6)).tmod 6 = n % 6 := by
  have h1 := Int.tmod_lt_of_pos n (show (0 : Int) < 6 by omega)
  have h2 := Int.lt_tmod_of_pos n (show (0 : Int) < 6 by omega)
  rw [IntWalk.wrap64_in _ (by omega), Int.tmod_eq_emod_of_nonneg (by omega)]
  rcases Int.le_total 0 n with h | h
  · rw [Int.tmod_eq_emod_of_nonneg h]; omega
  · rw [Int.tmod_eq_emod]; split <;> omega
theorem get6 (r : Nat → Int) (k : Nat) (hk : k < 6) : (#[.int .i64 (r 0), .int .i64 (r 1), .int .i64 (r 2), .int .i64 (r 3), .int .i64 (r 4), .int .i64 (r 5)] : Array Value)[k]? = some (.int .i64 (r k)) := by
  match k, hk with
  | 0, _ => rfl
  | 1, _ => rfl
  | 2, _ => rfl
  | 3, _ => rfl
  | 4, _ => rfl
  | 5, _ => rfl
theorem cell6_at (w : World) (r : Nat → Int) (t : TypeId) (k : Nat) (hk : k < 6) : (w.alloc (.cells #[.int .i64 (r 0), .int .i64 (r 1), .int .i64 (r 2), .int .i64 (r 3), .int .i64 (r 4), .int .i64 (r 5)] t)).cell? ⟨w.heap.size, k, none⟩ = some (.int .i64 (r k)) := (World.cell?_alloc_at (w := w) _ _ _ _ rfl).trans (get6 r k hk)
theorem cell6_1 (w : World) (r s : Nat → Int) (t : TypeId) (k : Nat) (hk : k < 6) : ((w.alloc (.cells #[.int .i64 (r 0), .int .i64 (r 1), .int .i64 (r 2), .int .i64 (r 3), .int .i64 (r 4), .int .i64 (r 5)] t)).alloc (.cells #[.int .i64 (s 0), .int .i64 (s 1), .int .i64 (s 2), .int .i64 (s 3), .int .i64 (s 4), .int .i64 (s 5)] t)).cell? ⟨w.heap.size, k, none⟩ = some (.int .i64 (r k)) := (World.cell?_alloc_past (w := w.alloc (.cells #[.int .i64 (r 0), .int .i64 (r 1), .int .i64 (r 2), .int .i64 (r 3), .int .i64 (r 4), .int .i64 (r 5)] t)) _ _ _ (by simp)).trans (cell6_at w r t k hk)
theorem cell6_2 (w : World) (r s : Nat → Int) (t : TypeId) (k : Nat) (hk : k < 6) : ((w.alloc (.cells #[.int .i64 (r 0), .int .i64 (r 1), .int .i64 (r 2), .int .i64 (r 3), .int .i64 (r 4), .int .i64 (r 5)] t)).alloc (.cells #[.int .i64 (s 0), .int .i64 (s 1), .int .i64 (s 2), .int .i64 (s 3), .int .i64 (s 4), .int .i64 (s 5)] t)).cell? ⟨w.heap.size + 1, k, none⟩ = some (.int .i64 (s k)) := (World.cell?_alloc_at (w := w.alloc (.cells #[.int .i64 (r 0), .int .i64 (r 1), .int .i64 (r 2), .int .i64 (r 3), .int .i64 (r 4), .int .i64 (r 5)] t)) _ _ _ _ (by simp)).trans (get6 s k hk)
def inR (x a b : Int) : Bool := decide (a ≤ x) && decide (x ≤ b)
theorem l1In_any (x a b : Int) (w : World) : Calls Try.prog 65 #[.int .i64 x, .int .i64 a, .int .i64 b] w fun e w' => e = .returned (.bool (inR x a b)) ∧ w = w' := by
  go_enter Try.func65, Try.ntmps65
  go_wp2
  all_goals (go_ret; exact ⟨ret_bool (by unfold inR; simp; omega), rfl⟩)
theorem l2Mod_any (n : Int) (w : World) : Calls Try.prog 83 #[.int .i64 n] w fun e w' => e = .returned (.int .i64 ((m6 n : Nat) : Int)) ∧ w = w' := by
  go_enter Try.func83, Try.ntmps83
  go_wp2
  go_ret
  exact ⟨ret_int ((rest_val n).trans (m6_eq n).symm), rfl⟩
theorem rest_any (n : Int) (w : World) : Calls Try.prog 73 #[.int .i64 n] w fun e w' => e = .returned (.int .i64 ((m6 n : Nat) : Int)) ∧ w = w' := by
  go_enter Try.func73, Try.ntmps73
  go_wp2
  go_ret
  exact ⟨ret_int ((rest_val n).trans (m6_eq n).symm), rfl⟩
def okC (x y : Int) : Bool := decide (0 ≤ x) && decide (x < 6) && decide (0 ≤ y) && decide (y < 6)
theorem isCell_any (x y : Int) (w : World) : Calls Try.prog 52 #[(.agg #[.int .i64 (x), .int .i64 (y)])] w fun e w' => e = .returned (.bool (okC x y)) ∧ Ext w w' := by
  go_enter Try.func52, Try.ntmps52
  go_wp2
  all_goals (go_ret; exact ⟨ret_bool (by unfold okC; simp; omega), (by (repeat (first | exact Ext.refl _ | assumption | refine Ext.alloc ?_ _ | refine Ext.drew ?_ | refine Ext.drewN ?_ _ | refine Ext.trans ?_ (by assumption) | refine Ext.setCell ?_ ?_ _)) <;> (first | assumption | omega | (simp; done) | (simp; omega)))⟩)
theorem isCell_is (x y : Int) (b : Bool) (h : okC x y = b) (w : World) : Calls Try.prog 52 #[(.agg #[.int .i64 (x), .int .i64 (y)])] w fun e w' => e = .returned (.bool b) ∧ Ext w w' := h ▸ isCell_any x y w
theorem has_any (n k : Nat) (hn : n < 68719476736) (hk : k < 36) (w : World) : Calls Try.prog 63 #[.int .u64 (n : Int), .int .i64 (k : Int)] w fun e w' => e = .returned (.bool (n.testBit k)) ∧ w = w' := by
  go_enter Try.func63, Try.ntmps63
  go_wp2
  go_ret
  exact ⟨ret_bool (has_bit n k hn), rfl⟩
theorem number_any (x y : Nat) (hx : x < 6) (hy : y < 6) (w : World) : Calls Try.prog 64 #[(.agg #[.int .i64 ((x : Int)), .int .i64 ((y : Int))])] w fun e w' => e = .returned (.int .i64 ((y * 6 + x : Nat) : Int)) ∧ Ext w w' := by
  go_enter Try.func64, Try.ntmps64
  go_wp2
  go_ret
  exact ⟨ret_int (by omega), (by (repeat (first | exact Ext.refl _ | assumption | refine Ext.alloc ?_ _ | refine Ext.drew ?_ | refine Ext.drewN ?_ _ | refine Ext.trans ?_ (by assumption) | refine Ext.setCell ?_ ?_ _)) <;> (first | assumption | omega | (simp; done) | (simp; omega)))⟩
end Go.Proofs.Ytpkddnllfhihpaa
