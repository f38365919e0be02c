/- Byt: contracts of functions, and lemmas, for this seat. Conditions: as each states. -/
import Derived.Test.YtadnfocbfabjnabRaw0
import Derived.Test.YtadnfocbfabjnabOff0
set_option linter.unusedVariables false
set_option maxRecDepth 100000
set_option maxHeartbeats 1000000
namespace Go.Proofs.Ytadnfocbfabjnab
open Go Go.RowKit Go.ChangeShapes Go.WideShapes
def capOk (v : Value) : Prop := ∀ a n c, v = .slice a n c → n ≤ c
/-! a slice of bytes, wherever it lies below block C -/
def Byt (w : World) (C : Nat) (v : Value) (n : Nat) : Prop :=
  ∃ ao cap, v = .slice ao n cap ∧ (0 < n → ∃ b o, ao = some ⟨b, o, none⟩ ∧ b < C ∧ ∀ j, j < n → ∃ x : Nat, x < 256 ∧ w.cell? ⟨b, o + j, none⟩ = some (.int .u8 (x : Nat)))
theorem open_bytes {H : Type} {enc : TypeId × Value → H} {P : Program} {w : World} {base b0 : Nat} {spare : Nat → Bool} {held : Bool} {r : Reach} {t e : TypeId} {v : Value} {d : DataW H} {p : List MemPlace}
    (ht : P.underlying t = some (.slice e)) (he : P.underlying e = some (.int .u8)) (hc : P.cellsOf e = 1) (hv : Value.okWide P w r b0 t v) (h : DataW.Trod enc P w base spare held t v d p) :
    ∃ n : Nat, Byt w w.heap.size v n ∧ capOk v := by
  obtain ⟨ao', n', cap', rfl⟩ := okWide_slice ht hv
  obtain ⟨fuel, hf⟩ := h
  rcases Go.Deep.open_slice ht hf with ⟨h1, _⟩ | ⟨a, len, cap, k, fu, D, Pl, h1, hb, hl, hmx, hk, hz, hx⟩
  · simp only [Value.cells] at h1
    obtain ⟨rfl, rfl, rfl⟩ : ao' = none ∧ n' = 0 ∧ cap' = 0 := by simpa using h1
    exact ⟨0, ⟨none, 0, rfl, fun h => absurd h (by omega)⟩, fun _ _ _ h => by injection h; omega⟩
  · simp only [Value.cells] at h1
    obtain ⟨rfl, rfl, rfl⟩ : ao' = some a ∧ n' = len ∧ cap' = cap := by simpa using h1
    have hlk : n' ≤ k := by rw [hk]; split <;> omega
    rw [hc] at hx
    have key : ∀ i, i < n' → ∃ x : Nat, x < 256 ∧ w.cell? (a.add i) = some (.int .u8 (x : Nat)) := by
      intro i hi
      obtain ⟨cs', h2, h3⟩ := hx i (by omega)
      obtain ⟨x, h5, _, h6⟩ := DataW.trod_int he h3
      obtain ⟨_, hlen, hcell⟩ := World.cells?_some h2
      have := hcell 0 (by omega)
      rw [h5] at this
      obtain ⟨h7, h8⟩ := bounds_u8 h6
      obtain ⟨z, rfl⟩ : ∃ z : Nat, x = z := ⟨x.toNat, by omega⟩
      refine ⟨z, by omega, ?_⟩
      rw [Nat.mul_one] at this
      simpa [Go.Deep.add_add] using this
    refine ⟨n', ⟨some a, cap', rfl, fun h0 => ?_⟩, fun _ _ _ h => by injection h; omega⟩
    obtain ⟨b, off, spot⟩ := a
    have hspot : spot = none := by obtain ⟨x, _, h⟩ := key 0 h0; simpa [Addr.add] using World.cell?_spot h
    subst hspot
    have hall : ∀ j, j < n' → ∃ x : Nat, x < 256 ∧ w.cell? ⟨b, off + j, none⟩ = some (.int .u8 (x : Nat)) := fun j hj => by rw [← Go.WideShapes.add_plain]; exact key j hj
    refine ⟨b, off, rfl, ?_, hall⟩
    obtain ⟨x, _, this⟩ := hall 0 h0
    rcases Nat.lt_or_ge b w.heap.size with h | h
    · exact h
    · rw [World.cell?, Array.getElem?_eq_none h] at this; cases this
theorem byt_ext {w w' : World} {C : Nat} {v : Value} {n : Nat} (h : Byt w C v n) (hC : C ≤ w.heap.size) (hx : Ext w w') : Byt w' C v n := by
  obtain ⟨ao, cap, hv, hs⟩ := h
  refine ⟨ao, cap, hv, fun h0 => ?_⟩
  obtain ⟨b, o, e, hb, hc⟩ := hs h0
  exact ⟨b, o, e, hb, fun j hj => by obtain ⟨x, hx1, hx2⟩ := hc j hj; exact ⟨x, hx1, (hx.cells _ _ (Nat.lt_of_lt_of_le hb hC)).trans hx2⟩⟩
theorem byt_mono {w : World} {C D : Nat} {v : Value} {n : Nat} (h : Byt w C v n) (hC : C ≤ D) : Byt w D v n := by
  obtain ⟨ao, cap, hv, hs⟩ := h
  refine ⟨ao, cap, hv, fun h0 => ?_⟩
  obtain ⟨b, o, e, hb, hc⟩ := hs h0
  exact ⟨b, o, e, by omega, hc⟩
theorem byt_off {S : Nat → Prop} {w w' : World} {C : Nat} {v : Value} {n : Nat} (h : Byt w C v n) (hC : C ≤ w.heap.size) (hS : ∀ k, S k → C ≤ k) (hx : Off S w w') : Byt w' C v n := by
  obtain ⟨ao, cap, hv, hs⟩ := h
  refine ⟨ao, cap, hv, fun h0 => ?_⟩
  obtain ⟨b, o, e, hb, hc⟩ := hs h0
  exact ⟨b, o, e, hb, fun j hj => by obtain ⟨x, hx1, hx2⟩ := hc j hj; exact ⟨x, hx1, (hx.cell (Nat.lt_of_lt_of_le hb hC) (fun hk => by have := hS b hk; omega) _).trans hx2⟩⟩
/-- its bytes as a list -/
def byv (L : List Nat) : List Value := L.map fun x : Nat => .int .u8 (x : Nat)
theorem byv_one (L : List Nat) : ∀ u ∈ byv L, u.oneCell' = true := by
  intro u hu
  unfold byv at hu
  obtain ⟨k, _, rfl⟩ := List.mem_map.1 hu
  rfl
theorem byv_length (L : List Nat) : (byv L).length = L.length := by unfold byv; simp
theorem byv_get (L : List Nat) (j x : Nat) (h : L[j]? = some x) : (byv L)[j]? = some (.int .u8 (x : Nat)) := by unfold byv; simp [h]
theorem byv_of (L : List Nat) (j : Nat) (u : Value) (h : (byv L)[j]? = some u) : ∃ x : Nat, L[j]? = some x ∧ u = .int .u8 (x : Nat) := by
  unfold byv at h
  rw [List.getElem?_map] at h
  cases hx : L[j]? with
  | none => rw [hx] at h; cases h
  | some x => rw [hx] at h; exact ⟨x, rfl, by simpa using h.symm⟩
theorem byt_list {w : World} {C n b o : Nat} (h : ∀ j, j < n → ∃ x : Nat, x < 256 ∧ w.cell? ⟨b, o + j, none⟩ = some (.int .u8 (x : Nat))) :
    ∃ L : List Nat, L.length = n ∧ (∀ x ∈ L, x < 256) ∧ ∀ j x, L[j]? = some x → w.cell? ⟨b, o + j, none⟩ = some (.int .u8 (x : Nat)) := by
  have key : ∀ j, j < n → (∃ x : Nat, x < 256 ∧ w.cell? ⟨b, o + j, none⟩ = some (.int .u8 (x : Nat))) := h
  let g : Nat → Nat := fun j => match w.cell? ⟨b, o + j, none⟩ with | some (.int _ x) => x.toNat | _ => 0
  have hg : ∀ j, j < n → g j < 256 ∧ w.cell? ⟨b, o + j, none⟩ = some (.int .u8 (g j : Nat)) := by
    intro j hj
    obtain ⟨x, hx, hc⟩ := key j hj
    have : g j = x := by show (match w.cell? ⟨b, o + j, none⟩ with | some (.int _ x) => x.toNat | _ => 0) = x; rw [hc]; simp
    rw [this]
    exact ⟨hx, hc⟩
  refine ⟨(List.range n).map g, by simp, fun x hx => ?_, fun j x hj => ?_⟩
  · obtain ⟨j, hj, rfl⟩ := List.mem_map.1 hx
    exact (hg j (List.mem_range.1 hj)).1
  · rw [List.getElem?_map] at hj
    rcases Nat.lt_or_ge j n with h1 | h1
    · rw [List.getElem?_range h1] at hj
      obtain rfl : g j = x := by simpa using hj
      exact (hg j h1).2
    · rw [List.getElem?_eq_none (by simpa using h1)] at hj
      cases hj
theorem byt_own {w : World} {B : Nat} {e : TypeId} {v : Value} {L : List Nat} (h : w.ownsRow B e 1 v L.length (byv L)) (hL : ∀ x ∈ L, x < 256) : Byt w w.heap.size v L.length := by
  rcases h.2 with ⟨hv, hn⟩ | ⟨g, cap, cur, hv, hb, hg, hn, _⟩
  · exact ⟨none, 0, by rw [hv, hn], fun h => by omega⟩
  · subst hv
    exact ⟨some ⟨g, 0, none⟩, cap, rfl, fun _ => ⟨g, 0, rfl, row_lt hg, fun j hj => ⟨L[j], hL _ (List.getElem_mem hj), by
      rw [Nat.zero_add]
      exact (h.cellAt j (by omega)).trans (byv_get L j _ (List.getElem?_eq_getElem hj))⟩⟩⟩
theorem under_u8 : Try.prog.underlying 5 = some (.int .u8) := Try.underlying5
theorem cells_u8 : Try.prog.cellsOf 5 = 1 := by kernel_rfl
end Go.Proofs.Ytadnfocbfabjnab
