/- Own: contracts of functions, and lemmas, for this seat. Conditions: as each states. -/
import Derived.Test.YtadnfocbfabjnaaVs
import Derived.Test.YtadnfocbfabjnaaEql
import Derived.OwnWalk
import Derived.Laws.OwnMore
set_option linter.unusedVariables false
set_option maxRecDepth 100000
set_option maxHeartbeats 1000000
namespace Go.Proofs.Ytadnfocbfabjnaa
open Go Go.RowKit Instr
/-! slices that a call has made -/
/-- of the numbers below k those of which something is so -/
def fl (p : Nat → Bool) (k : Nat) : List Nat := (List.range k).filter p
theorem fl_hit {p : Nat → Bool} {k : Nat} (h : p k = true) : fl p (k + 1) = fl p k ++ [k] := by unfold fl; rw [List.range_succ, List.filter_append]; simp [h]
theorem fl_miss {p : Nat → Bool} {k : Nat} (h : p k = false) : fl p (k + 1) = fl p k := by unfold fl; rw [List.range_succ, List.filter_append]; simp [h]
theorem fl_le (p : Nat → Bool) (k : Nat) : (fl p k).length ≤ k := by
  have := List.length_filter_le p (List.range k)
  unfold fl; simpa using this
theorem own_ext {w w' : World} {B : Nat} {e : TypeId} {size : Nat} {v : Value} {n : Nat} {xs : List Value} (h : w.ownsRow B e size v n xs) (hx : Ext w w') : w'.ownsRow B e size v n xs :=
  h.kept (row := none) ⟨hx.below.os, hx.below.tape, hx.below.output, hx.size, fun k hk _ => hx.at hk⟩ (by cases hv : v.ownBlock <;> simp)
/-- below a block that lies under the row -/
theorem own_below {w w' : World} {B C : Nat} {e : TypeId} {size : Nat} {v : Value} {n : Nat} {xs : List Value} (h : w.ownsRow B e size v n xs) (hx : Below C w w') (hC : w.heap.size ≤ C) : w'.ownsRow B e size v n xs :=
  h.kept (row := none) ⟨hx.os, hx.tape, hx.output, hx.size, fun k hk _ => hx.block k (Nat.lt_of_lt_of_le hk hC)⟩ (by cases hv : v.ownBlock <;> simp)
theorem own_mono {w : World} {B B' : Nat} {e : TypeId} {size : Nat} {v : Value} {n : Nat} {xs : List Value} (h : w.ownsRow B e size v n xs) (hB : B' ≤ B) : w.ownsRow B' e size v n xs := by
  obtain ⟨h1, h2⟩ := h
  refine ⟨h1, ?_⟩
  rcases h2 with h2 | ⟨g, cap, cur, hv, hg, r⟩
  · exact .inl h2
  · exact .inr ⟨g, cap, cur, hv, by omega, r⟩
theorem own_empty (w : World) (e : TypeId) (size : Nat) (B : Nat) (hB : B ≤ w.heap.size) {b : Nat} (hb : b = w.heap.size) : (w.alloc (.cells #[] e)).ownsRow B e size (.slice (some ⟨b, 0, none⟩) 0 0) 0 [] := by
  subst hb
  exact World.ownsRow_made w #[] 0 hB (by unfold maxLen; omega) (by simp)
/-- behind an append -/
theorem own_push {w wr w1 : World} {o : Obj} {B : Nat} {e : TypeId} {size : Nat} {v : Value} {n : Nat} {xs : List Value} (hx : Ext w wr) (hB : w.heap.size ≤ B) (hown : wr.ownsRow B e size v n xs) (hgrow : (wr.alloc o).grownBy w1 v.ownBlock) :
    Ext w w1 ∧ ∀ b g, b < B → b < wr.heap.size → Arr wr b g → Arr w1 b g := by
  have hlt := hown.lt
  refine ⟨.of ((hx.alloc o).below.grown hgrow (by have := hx.size; simp; omega) (fun k hk => by have := (hlt k hk).1; omega)), fun b g hb hs ha j hj => ?_⟩
  have hne : some b ≠ v.ownBlock := fun h => by have := (hlt b h.symm).1; omega
  have key := hgrow.block b (by simp; omega) hne
  have ha' := (ha.alloc o hs) j hj
  exact ⟨(World.cell?_of_block (w := wr.alloc o) (a := ⟨b, j, none⟩) key).trans ha'.1, (World.frozen?_of_block (w := wr.alloc o) (a := ⟨b, j, none⟩) key).trans ha'.2⟩
theorem one_cell {w : World} {v : Value} {e : TypeId} (j : Nat) (u : Value) (h : [v][j]? = some u) : (w.alloc (.cells #[v] e)).cell? ((⟨w.heap.size, 0, none⟩ : Addr).add j) = some u := by
  match j, h with
  | 0, h =>
    simp at h; subst h
    exact World.cell?_alloc_at (w := w) _ _ _ _ (by simp [Addr.add])
theorem two_cells {w : World} {v z : Value} {e : TypeId} (j : Nat) (u : Value) (h : [v, z][j]? = some u) : (w.alloc (.cells #[v, z] e)).cell? ((⟨w.heap.size, 0, none⟩ : Addr).add j) = some u := by
  match j, h with
  | 0, h =>
    simp at h; subst h
    exact World.cell?_alloc_at (w := w) _ _ _ _ (by simp [Addr.add])
  | 1, h =>
    simp at h; subst h
    exact World.cell?_alloc_at (w := w) _ _ _ _ (by simp [Addr.add])
theorem info_int : (Try.prog.info? 3).map (fun i => (i.zero, i.size, i.bytes)) = some (some (.int .i64 0), 1, 8) := by kernel_rfl
theorem info_two : (Try.prog.info? 33).map (fun i => (i.zero, i.size, i.bytes)) = some (some (.agg #[.int .i64 0, .int .i64 0]), 2, 16) := by kernel_rfl
end Go.Proofs.Ytadnfocbfabjnaa
