/- Own: contracts of functions, and lemmas, for this seat. Conditions: as each states. -/
import Derived.Test.YtlifhoajamnehaaVs
import Derived.Test.YtlifhoajamnehaaEql
import Derived.Test.YtlifhoajamnehaaLaw
import Derived.OwnWalk
import Derived.Laws.OwnMore
set_option linter.unusedVariables false
set_option maxRecDepth 100000
set_option maxHeartbeats 1000000
namespace Go.Proofs.Ytlifhoajamnehaa
open Go Go.RowKit Instr
/-! slices that a call has made -/
/-- of the numbers below k those of which something is so -/
def fl (p : Nat → Bool) (k : Nat) : List Nat := (List.range k).filter p
theorem fl_hit {p : Nat → Bool} {k : Nat} (h : p k = true) : fl p (k + 1) = fl p k ++ [k] := by unfold fl; rw [List.range_succ, List.filter_append]; simp [h]
theorem fl_miss {p : Nat → Bool} {k : Nat} (h : p k = false) : fl p (k + 1) = fl p k := by unfold fl; rw [List.range_succ, List.filter_append]; simp [h]
theorem fl_le (p : Nat → Bool) (k : Nat) : (fl p k).length ≤ k := by
  have := List.length_filter_le p (List.range k)
  unfold fl; simpa using this
theorem own_ext {w w' : World} {B : Nat} {e : TypeId} {size : Nat} {v : Value} {n : Nat} {xs : List Value} (h : w.ownsRow B e size v n xs) (hx : Ext w w') : w'.ownsRow B e size v n xs :=
  h.kept (row := none) ⟨hx.below.os, hx.below.tape, hx.below.output, hx.size, fun k hk _ => hx.at hk⟩ (by cases hv : v.ownBlock <;> simp)
/-- below a block that lies under the row -/
theorem own_below {w w' : World} {B C : Nat} {e : TypeId} {size : Nat} {v : Value} {n : Nat} {xs : List Value} (h : w.ownsRow B e size v n xs) (hx : Below C w w') (hC : w.heap.size ≤ C) : w'.ownsRow B e size v n xs :=
  h.kept (row := none) ⟨hx.os, hx.tape, hx.output, hx.size, fun k hk _ => hx.block k (Nat.lt_of_lt_of_le hk hC)⟩ (by cases hv : v.ownBlock <;> simp)
theorem own_mono {w : World} {B B' : Nat} {e : TypeId} {size : Nat} {v : Value} {n : Nat} {xs : List Value} (h : w.ownsRow B e size v n xs) (hB : B' ≤ B) : w.ownsRow B' e size v n xs := by
  obtain ⟨h1, h2⟩ := h
  refine ⟨h1, ?_⟩
  rcases h2 with h2 | ⟨g, cap, cur, hv, hg, r⟩
  · exact .inl h2
  · exact .inr ⟨g, cap, cur, hv, by omega, r⟩
theorem own_empty (w : World) (e : TypeId) (size : Nat) (B : Nat) (hB : B ≤ w.heap.size) {b : Nat} (hb : b = w.heap.size) : (w.alloc (.cells #[] e)).ownsRow B e size (.slice (some ⟨b, 0, none⟩) 0 0) 0 [] := by
  subst hb
  exact World.ownsRow_made w #[] 0 hB (by unfold maxLen; omega) (by simp)
/-- behind an append -/
theorem own_push {w wr w1 : World} {o : Obj} {B : Nat} {e : TypeId} {size : Nat} {v : Value} {n : Nat} {xs : List Value} (hx : Ext w wr) (hB : w.heap.size ≤ B) (hown : wr.ownsRow B e size v n xs) (hgrow : (wr.alloc o).grownBy w1 v.ownBlock) :
    Ext w w1 ∧ ∀ b g, b < B → b < wr.heap.size → Arr wr b g → Arr w1 b g := by
  have hlt := hown.lt
  refine ⟨.of ((hx.alloc o).below.grown hgrow (by have := hx.size; simp; omega) (fun k hk => by have := (hlt k hk).1; omega)), fun b g hb hs ha j hj => ?_⟩
  have hne : some b ≠ v.ownBlock := fun h => by have := (hlt b h.symm).1; omega
  have key := hgrow.block b (by simp; omega) hne
  have ha' := (ha.alloc o hs) j hj
  exact ⟨(World.cell?_of_block (w := wr.alloc o) (a := ⟨b, j, none⟩) key).trans ha'.1, (World.frozen?_of_block (w := wr.alloc o) (a := ⟨b, j, none⟩) key).trans ha'.2⟩
theorem one_cell {w : World} {v : Value} {e : TypeId} (j : Nat) (u : Value) (h : [v][j]? = some u) : (w.alloc (.cells #[v] e)).cell? ((⟨w.heap.size, 0, none⟩ : Addr).add j) = some u := by
  match j, h with
  | 0, h =>
    simp at h; subst h
    exact World.cell?_alloc_at (w := w) _ _ _ _ (by simp)
theorem two_cells {w : World} {v z : Value} {e : TypeId} (j : Nat) (u : Value) (h : [v, z][j]? = some u) : (w.alloc (.cells #[v, z] e)).cell? ((⟨w.heap.size, 0, none⟩ : Addr).add j) = some u := by
  match j, h with
  | 0, h =>
    simp at h; subst h
    exact World.cell?_alloc_at (w := w) _ _ _ _ (by simp)
  | 1, h =>
    simp at h; subst h
    exact World.cell?_alloc_at (w := w) _ _ _ _ (by simp)
/-! slices of numbers, and of pairs: compared, marked, held against the marks -/
def Gl (m : Nat) (g : Nat → Int) : List Value := (List.range m).map fun i => Value.int .i64 (g i)
theorem Gl_get {m : Nat} {g : Nat → Int} {j : Nat} (h : j < m) : (Gl m g)[j]? = some (.int .i64 (g j)) := by unfold Gl; simp [h]
theorem Gl_congr {m : Nat} {g h : Nat → Int} (e : ∀ i, i < m → g i = h i) : Gl m g = Gl m h := by
  unfold Gl
  refine List.map_congr_left fun i hi => ?_
  rw [e i (List.mem_range.1 hi)]
theorem Gl_set (m : Nat) (g : Nat → Int) (j : Nat) (v : Int) : (Gl m g).set j (.int .i64 v) = Gl m (fun i => if i = j then v else g i) := by
  unfold Gl
  refine List.ext_getElem? fun i => ?_
  rw [List.getElem?_set, List.getElem?_map, List.getElem?_map, List.length_map, List.length_range]
  by_cases h : i < m
  · rw [List.getElem?_range h]
    by_cases e : j = i
    · subst e; simp [h]
    · rw [if_neg e]; simp [Ne.symm e]
  · rw [List.getElem?_eq_none (by simp; omega : (List.range m).length ≤ i)]
    by_cases e : j = i
    · subst e; simp [h]
    · rw [if_neg e]; rfl
theorem Gl_of {xs : List Value} (h : ∀ u ∈ xs, ∃ i : Int, u = .int .i64 i) : ∃ g, xs = Gl xs.length g := by
  refine ⟨fun i => match xs[i]? with | some (.int _ z) => z | _ => 0, List.ext_getElem? fun i => ?_⟩
  by_cases hi : i < xs.length
  · rw [Gl_get hi, List.getElem?_eq_getElem hi]
    obtain ⟨z, hz⟩ := h _ (List.getElem_mem hi)
    rw [hz]
  · rw [List.getElem?_eq_none (by omega), List.getElem?_eq_none (by unfold Gl; simp; omega)]
theorem own_shape {w : World} {B : Nat} {e : TypeId} {size : Nat} {v : Value} {n : Nat} {xs : List Value} (h : w.ownsRow B e size v n xs) : ∃ ao cap, v = .slice ao n cap ∧ (0 < n → ∃ b, ao = some ⟨b, 0, none⟩ ∧ B ≤ b ∧ b < w.heap.size) := by
  rcases h.2 with ⟨hv, hn⟩ | ⟨g, cap, cur, hv, hb, hg, _⟩
  · exact ⟨none, 0, by rw [hv, hn], fun h => by omega⟩
  · exact ⟨some ⟨g, 0, none⟩, cap, hv, fun _ => ⟨g, rfl, hb, row_lt hg⟩⟩
/-- marks laid up to j -/
def mk' (k : Nat) (j : Nat) (g : Nat → Int) (i : Nat) : Int := if i < j then ((k + i : Nat) : Int) else g i
theorem mk_step (m k j : Nat) (g : Nat → Int) : Gl m (fun i => if i = j then ((k : Int) + (j : Int)) else mk' k j g i) = Gl m (mk' k (j + 1) g) :=
  Gl_congr fun i _ => by
    show (if i = j then _ else _) = _
    unfold mk'
    by_cases e : i = j
    · subst e; rw [if_pos rfl, if_pos (by omega)]; omega
    · rw [if_neg e]
      by_cases h : i < j
      · rw [if_pos h, if_pos (by omega)]
      · rw [if_neg h, if_neg (by omega)]
theorem mk_0 (m k : Nat) (g : Nat → Int) : Gl m g = Gl m (mk' k 0 g) := Gl_congr fun i _ => by unfold mk'; rw [if_neg (by omega)]
theorem mk_all (m k : Nat) (g : Nat → Int) : Gl m (mk' k m g) = Gl m (fun i => ((k + i : Nat) : Int)) := Gl_congr fun i hi => by unfold mk'; rw [if_pos hi]
theorem info_int : (Try.prog.info? 3).map (fun i => (i.zero, i.size, i.bytes)) = some (some (.int .i64 0), 1, 8) := by kernel_rfl
theorem info_two : (Try.prog.info? 33).map (fun i => (i.zero, i.size, i.bytes)) = some (some (.agg #[.int .i64 0, .int .i64 0]), 2, 16) := by kernel_rfl
end Go.Proofs.Ytlifhoajamnehaa
