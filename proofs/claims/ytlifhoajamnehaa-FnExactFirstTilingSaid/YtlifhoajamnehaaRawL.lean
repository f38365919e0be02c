/- RawL: contracts of functions, and lemmas, for this seat. Conditions: as each states. -/
import Derived.Test.YtlifhoajamnehaaInkM
import Derived.Test.YtlifhoajamnehaaSl
import Derived.Test.YtlifhoajamnehaaOps
set_option linter.unusedVariables false
set_option maxRecDepth 100000
set_option maxHeartbeats 1000000
namespace Go.Proofs.Ytlifhoajamnehaa
open Go Go.RowKit Instr
/-! a slice of cells that is read alone, wherever it lies -/
def RawL (w : World) (v : Value) (L : List Nat) : Prop :=
  ∃ ao cap, v = .slice ao L.length cap ∧ L.length ≤ cap ∧ (0 < L.length → ∃ b o, ao = some ⟨b, o, none⟩ ∧ b < w.heap.size ∧ ∀ j k : Nat, L[j]? = some k → w.cell? ⟨b, o + j * 2, none⟩ = some (.int .i64 ((k % 6 : Nat) : Int)) ∧ w.cell? ⟨b, o + j * 2 + 1, none⟩ = some (.int .i64 ((k / 6 : Nat) : Int)))
theorem rawl_ext {w w' : World} {v : Value} {L : List Nat} (h : RawL w v L) (hx : Ext w w') : RawL w' v L := by
  obtain ⟨ao, cap, hv, hc, hs⟩ := h
  refine ⟨ao, cap, hv, hc, fun h0 => ?_⟩
  obtain ⟨b, o, e, hb, hk⟩ := hs h0
  exact ⟨b, o, e, Nat.lt_of_lt_of_le hb hx.size, fun j k hj => ⟨(hx.cells _ _ hb).trans (hk j k hj).1, (hx.cells _ _ hb).trans (hk j k hj).2⟩⟩
theorem rawl_own {w : World} {B : Nat} {v : Value} {L : List Nat} (h : w.ownsRow B 33 2 v L.length (pxy L)) : RawL w v L := by
  rcases h.2 with ⟨hv, hn⟩ | ⟨g, cap, cur, hv, hb, hg, hn, _⟩
  · exact ⟨none, 0, by rw [hv, hn], by omega, fun h => by omega⟩
  · subst hv
    have h0 := h
    exact ⟨some ⟨g, 0, none⟩, cap, rfl, hn, fun _ => ⟨g, 0, rfl, row_lt hg, fun j k hj => by
      have hlt := (List.getElem?_eq_some_iff.1 hj).1
      have p := pxy_get L j k hj
      rw [Nat.zero_add]
      exact ⟨(h0.cellAt (j * 2) (by omega)).trans p.1, (h0.cellAt (j * 2 + 1) (by omega)).trans p.2⟩⟩⟩
/-- the rest behind place i -/
theorem rawl_drop {w : World} {b o cap : Nat} {L : List Nat} {i : Nat} (hi : i ≤ L.length) (hcap : L.length ≤ cap) (hb : b < w.heap.size)
    (h : ∀ j k : Nat, L[j]? = some k → w.cell? ⟨b, o + j * 2, none⟩ = some (.int .i64 ((k % 6 : Nat) : Int)) ∧ w.cell? ⟨b, o + j * 2 + 1, none⟩ = some (.int .i64 ((k / 6 : Nat) : Int))) :
    RawL w (.slice (if cap = i then some ⟨b, o, none⟩ else some ⟨b, o + i * 2, none⟩) (L.length - i) (cap - i)) (L.drop i) := by
  refine ⟨_, _, by rw [List.length_drop], by rw [List.length_drop]; omega, fun h0 => ?_⟩
  rw [List.length_drop] at h0
  rw [if_neg (by omega)]
  refine ⟨b, o + i * 2, rfl, hb, fun j k hj => ?_⟩
  rw [List.getElem?_drop] at hj
  have := h _ _ hj
  rw [show o + i * 2 + j * 2 = o + (i + j) * 2 by omega]
  exact this
end Go.Proofs.Ytlifhoajamnehaa
