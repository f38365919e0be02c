/- Raw0: contracts of functions, and lemmas, for this seat. Conditions: as each states. -/
import Derived.Test.YtlifhoajamnehaaRow
import Derived.Test.YtlifhoajamnehaaSl
import Derived.Deep.Slices
set_option linter.unusedVariables false
set_option maxRecDepth 100000
set_option maxHeartbeats 1000000
namespace Go.Proofs.Ytlifhoajamnehaa
open Go Go.RowKit Go.ChangeShapes Go.WideShapes
/-! a slice that is handed in: numbers in a row, wherever it lies -/
def Raw (w : World) (v : Value) (n m : Nat) (g : Nat → Int) : Prop :=
  ∃ ao cap, v = .slice ao n cap ∧ (0 < n → ∃ b o, ao = some ⟨b, o, none⟩ ∧ b < w.heap.size ∧ ∀ j, j < n * m → w.cell? ⟨b, o + j, none⟩ = some (.int .i64 (g j)))
theorem open_raw {H : Type} {enc : TypeId × Value → H} {P : Program} {w : World} {base b0 : Nat} {spare : Nat → Bool} {held : Bool} {r : Reach} {t e : TypeId} {v : Value} {d : DataW H} {p : List MemPlace} {m : Nat}
    (ht : P.underlying t = some (.slice e)) (hic : IntCells P e m) (hc : P.cellsOf e = m) (hm : 0 < m) (hv : Value.okWide P w r b0 t v) (h : DataW.Trod enc P w base spare held t v d p) :
    ∃ (n : Nat) (g : Nat → Int), Raw w v n m g ∧ n ≤ 9223372036854775807 ∧ ∀ j, j < n * m → -9223372036854775808 ≤ g j ∧ g j ≤ 9223372036854775807 := by
  obtain ⟨ao', n', cap', rfl⟩ := okWide_slice ht hv
  obtain ⟨fuel, hf⟩ := h
  rcases Go.Deep.open_slice ht hf with ⟨h1, _⟩ | ⟨a, len, cap, k, fu, D, Pl, h1, hb, hl, hmx, hk, _, hx⟩
  · simp only [Value.cells] at h1
    obtain ⟨rfl, rfl, rfl⟩ : ao' = none ∧ n' = 0 ∧ cap' = 0 := by simpa using h1
    exact ⟨0, fun _ => 0, ⟨none, 0, rfl, fun h => absurd h (by omega)⟩, by omega, fun j hj => absurd hj (by omega)⟩
  · simp only [Value.cells] at h1
    obtain ⟨rfl, rfl, rfl⟩ : ao' = some a ∧ n' = len ∧ cap' = cap := by simpa using h1
    have hlk : n' ≤ k := by rw [hk]; split <;> omega
    rw [hc] at hx
    have key : ∀ i, i < n' → ∀ q, q < m → ∃ x : Int, w.cell? (a.add (i * m + q)) = some (.int .i64 x) ∧ -9223372036854775808 ≤ x ∧ x ≤ 9223372036854775807 := by
      intro i hi q hq
      obtain ⟨cs', h2, h3⟩ := hx i (by omega)
      obtain ⟨_, h5⟩ := hic H enc w base spare held fu cs' _ h3
      obtain ⟨x, h6, h7⟩ := h5 q hq
      refine ⟨x, ?_, h7⟩
      obtain ⟨_, hlen, hcell⟩ := World.cells?_some h2
      have := hcell q hq
      rw [h6] at this
      rw [← Go.Deep.add_add]
      exact this
    let g : Nat → Int := fun j => match w.cell? (a.add j) with | some (.int _ x) => x | _ => 0
    have hg : ∀ j, j < n' * m → w.cell? (a.add j) = some (.int .i64 (g j)) ∧ -9223372036854775808 ≤ g j ∧ g j ≤ 9223372036854775807 := by
      intro j hj
      have hmod := Nat.mod_lt j hm
      have hi : j / m < n' := Nat.div_lt_of_lt_mul (by rw [Nat.mul_comm]; exact hj)
      obtain ⟨x, h2, h3⟩ := key (j / m) hi (j % m) hmod
      rw [show j / m * m + j % m = j by rw [Nat.mul_comm]; exact Nat.div_add_mod j m] at h2
      have : g j = x := by show (match w.cell? (a.add j) with | some (.int _ x) => x | _ => 0) = x; rw [h2]
      rw [this]
      exact ⟨h2, h3⟩
    refine ⟨n', g, ⟨some a, cap', rfl, fun h0 => ?_⟩, by unfold maxLen at hmx; omega, fun j hj => (hg j hj).2⟩
    have hpos : 0 < n' * m := Nat.mul_pos h0 hm
    obtain ⟨b, off, spot⟩ := a
    have hspot : spot = none := by simpa [Addr.add] using World.cell?_spot (hg 0 hpos).1
    subst hspot
    have hall : ∀ j, j < n' * m → w.cell? ⟨b, off + j, none⟩ = some (.int .i64 (g j)) := fun j hj => by rw [← Go.WideShapes.add_plain]; exact (hg j hj).1
    refine ⟨b, off, rfl, ?_, hall⟩
    have := hall 0 hpos
    rcases Nat.lt_or_ge b w.heap.size with h | h
    · exact h
    · rw [World.cell?, Array.getElem?_eq_none h] at this; cases this
theorem raw_ext {w w' : World} {v : Value} {n m : Nat} {g : Nat → Int} (h : Raw w v n m g) (hx : Ext w w') : Raw w' v n m g := by
  obtain ⟨ao, cap, hv, hs⟩ := h
  refine ⟨ao, cap, hv, fun h0 => ?_⟩
  obtain ⟨b, o, e, hb, hc⟩ := hs h0
  exact ⟨b, o, e, Nat.lt_of_lt_of_le hb hx.size, fun j hj => (hx.cells _ _ hb).trans (hc j hj)⟩
theorem made_Gl (z : Array Value) (k : Nat) (hz : ∀ j, j < z.size → z[j]! = .int .i64 0) (h0 : 0 < z.size) : (madeCells z k).toList = Gl k (fun _ => 0) := by
  unfold madeCells Gl
  simp only [Array.toList_map, Array.toList_range]
  exact List.map_congr_left fun i _ => hz _ (Nat.mod_lt _ h0)
/-- laid from a raw slice up to j -/
def upto (j : Nat) (g : Nat → Int) (i : Nat) : Int := if i < j then g i else 0
theorem up_step (m j : Nat) (g : Nat → Int) : Gl m (fun i => if i = j then g j else upto j g i) = Gl m (upto (j + 1) g) :=
  Gl_congr fun i _ => by
    show (if i = j then _ else _) = _
    unfold upto
    by_cases e : i = j
    · subst e; rw [if_pos rfl, if_pos (by omega)]
    · rw [if_neg e]
      by_cases h : i < j
      · rw [if_pos h, if_pos (by omega)]
      · rw [if_neg h, if_neg (by omega)]
theorem up_0 (m : Nat) (g : Nat → Int) : Gl m (fun _ => 0) = Gl m (upto 0 g) := Gl_congr fun i _ => by unfold upto; rw [if_neg (by omega)]
theorem up_all (m : Nat) (g : Nat → Int) : Gl m (upto m g) = Gl m g := Gl_congr fun i hi => by unfold upto; rw [if_pos hi]
end Go.Proofs.Ytlifhoajamnehaa
