/- InkM: contracts of functions, and lemmas, for this seat. Conditions: as each states. -/
import Derived.Test.YtlifhoajamnehaaOwn
set_option linter.unusedVariables false
set_option maxRecDepth 100000
set_option maxHeartbeats 1000000
namespace Go.Proofs.Ytlifhoajamnehaa
open Go Go.RowKit
/-- a stamp pressed at cells, one behind the other, by inking -/
def inkL (n : Nat) (L : List Nat) : Nat := L.foldl (fun o k => o ||| sh n (k % 6) (k / 6)) 0
theorem foldl_lt (n : Nat) : ∀ (L : List Nat) (o : Nat), o < 68719476736 → L.foldl (fun o k => o ||| sh n (k % 6) (k / 6)) o < 68719476736
  | [], o, h => h
  | k :: L, o, h => foldl_lt n L _ (or36 h (sh_lt _ _ _))
theorem inkL_lt (n : Nat) (L : List Nat) : inkL n L < 68719476736 := foldl_lt n L 0 (by omega)
theorem inkL_step (n : Nat) (L : List Nat) (i k : Nat) (h : L[i]? = some k) : inkL n (L.take (i + 1)) = inkL n (L.take i) ||| sh n (k % 6) (k / 6) := by
  unfold inkL
  rw [List.take_add_one, h, List.foldl_append]
  rfl
theorem inkL_all (n : Nat) (L : List Nat) : inkL n (L.take L.length) = inkL n L := by rw [List.take_length]
/-- numbers, and cells, in a row -/
def ints (L : List Nat) : List Value := L.map fun k : Nat => Value.int .i64 (k : Int)
def pxy (L : List Nat) : List Value := L.flatMap fun k : Nat => [Value.int .i64 ((k % 6 : Nat) : Int), Value.int .i64 ((k / 6 : Nat) : Int)]
theorem ints_get (L : List Nat) (i k : Nat) (h : L[i]? = some k) : (ints L)[i]? = some (.int .i64 (k : Int)) := by unfold ints; rw [List.getElem?_map, h]; rfl
theorem pxy_get : ∀ (L : List Nat) (i k : Nat), L[i]? = some k → (pxy L)[i * 2]? = some (.int .i64 ((k % 6 : Nat) : Int)) ∧ (pxy L)[i * 2 + 1]? = some (.int .i64 ((k / 6 : Nat) : Int))
  | [], i, k, h => by simp at h
  | a :: L, 0, k, h => by
    have : a = k := by simpa using h
    subst this
    exact ⟨rfl, rfl⟩
  | a :: L, i + 1, k, h => by
    have := pxy_get L i k (by simpa using h)
    have e : pxy (a :: L) = [Value.int .i64 ((a % 6 : Nat) : Int), Value.int .i64 ((a / 6 : Nat) : Int)] ++ pxy L := rfl
    rw [e, show (i + 1) * 2 = i * 2 + 2 by omega, show i * 2 + 2 + 1 = (i * 2 + 1) + 2 by omega]
    exact this
theorem pxy_append (L M : List Nat) : pxy (L ++ M) = pxy L ++ pxy M := List.flatMap_append
theorem ints_append (L M : List Nat) : ints (L ++ M) = ints L ++ ints M := List.map_append
theorem pxy_length (L : List Nat) : (pxy L).length = L.length * 2 := by
  induction L with
  | nil => rfl
  | cons x L ih =>
    show ([_, _] ++ pxy L).length = _
    rw [List.length_append, ih, List.length_cons, List.length_cons, List.length_cons, List.length_nil]; omega
theorem ints_length (L : List Nat) : (ints L).length = L.length := by unfold ints; simp
theorem fl_lt {p : Nat → Bool} {m i k : Nat} (h : (fl p m)[i]? = some k) : k < m := by
  have := List.mem_of_getElem? h
  unfold fl at this
  exact List.mem_range.1 (List.mem_filter.1 this).1
theorem fl_congr {p q : Nat → Bool} {m : Nat} (h : ∀ k, k < m → p k = q k) : fl p m = fl q m := List.filter_congr fun k hk => h k (List.mem_range.1 hk)
theorem fl_mk (p : Nat → Bool) : fl (mkN p 36).testBit 36 = fl p 36 := fl_congr fun k hk => by rw [testBit_mkN, decide_eq_true hk, Bool.true_and]
end Go.Proofs.Ytlifhoajamnehaa
