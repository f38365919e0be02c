/- LLs: contracts of functions, and lemmas, for this seat. Conditions: as each states. -/
import Derived.Test.YtlifhoajamnehaaMade
import Derived.Test.YtlifhoajamnehaaRawL
import Derived.Test.YtlifhoajamnehaaOff
set_option linter.unusedVariables false
set_option maxRecDepth 100000
set_option maxHeartbeats 1000000
namespace Go.Proofs.Ytlifhoajamnehaa
open Go Go.RowKit Instr
/-! slices of slices of cells -/
theorem info_sl : (Try.prog.info? 28).map (fun i => (i.zero, i.size, i.bytes)) = some (some (.slice none 0 0), 1, 24) := by kernel_rfl
/-- a slice of cells that lies somewhere, never nil -/
def Inn (w : World) (u : Value) (L : List Nat) : Prop :=
  ∃ b o cap cur, u = .slice (some ⟨b, o, none⟩) L.length cap ∧ L.length ≤ cap ∧ w.heap[b]? = some (.cells cur 33 (0, 0)) ∧ ∀ j k : Nat, L[j]? = some k → w.cell? ⟨b, o + j * 2, none⟩ = some (.int .i64 ((k % 6 : Nat) : Int)) ∧ w.cell? ⟨b, o + j * 2 + 1, none⟩ = some (.int .i64 ((k / 6 : Nat) : Int))
theorem inn_stable (u : Value) (L : List Nat) : Stable fun w => Inn w u L := fun w w' hx ⟨b, o, cap, cur, h1, h2, h3, h4⟩ =>
  ⟨b, o, cap, cur, h1, h2, (hx.at (row_lt h3)).trans h3, fun j k h => ⟨(hx.cells _ _ (row_lt h3)).trans (h4 j k h).1, (hx.cells _ _ (row_lt h3)).trans (h4 j k h).2⟩⟩
theorem inn_raw {w : World} {u : Value} {L : List Nat} (h : Inn w u L) : RawL w u L := by
  obtain ⟨b, o, cap, cur, h1, h2, h3, h4⟩ := h
  exact ⟨_, cap, h1, h2, fun _ => ⟨b, o, rfl, row_lt h3, h4⟩⟩
theorem inn_own {w : World} {B b cap : Nat} {L : List Nat} {n : Nat} (hn : n = L.length) (h : w.ownsRow B 33 2 (.slice (some ⟨b, 0, none⟩) n cap) n (pxy L)) : Inn w (.slice (some ⟨b, 0, none⟩) n cap) L := by
  subst hn
  rcases h.2 with ⟨hv, _⟩ | ⟨g, c, cur, hv, hb, hg, hc, _⟩
  · cases hv
  · injection hv with e1 e2 e3
    injection e1 with e1
    injection e1 with e1
    subst e1
    subst e3
    refine ⟨b, 0, cap, cur, rfl, hc, hg, fun j k hj => ?_⟩
    have hlt := (List.getElem?_eq_some_iff.1 hj).1
    have p := pxy_get L j k hj
    rw [Nat.zero_add]
    exact ⟨(h.cellAt (j * 2) (by omega)).trans p.1, (h.cellAt (j * 2 + 1) (by omega)).trans p.2⟩
theorem inn_cells {w : World} {b o cap n : Nat} {L : List Nat} (h : Inn w (.slice (some ⟨b, o, none⟩) n cap) L) : n = L.length ∧ ∀ (j : Nat) (u : Value), (pxy L)[j]? = some u → w.cell? ((⟨b, o, none⟩ : Addr).add j) = some u := by
  obtain ⟨b', o', cap', cur, h1, h2, h3, h4⟩ := h
  injection h1 with e1 e2 e3
  injection e1 with e1
  injection e1 with e1 e4
  subst e1
  subst e4
  refine ⟨e2, fun j u hu => ?_⟩
  have hj := (List.getElem?_eq_some_iff.1 hu).1
  rw [pxy_length] at hj
  have hk : L[j / 2]? = some L[j / 2] := List.getElem?_eq_getElem (by omega)
  have p := pxy_get L _ _ hk
  have q := h4 _ _ hk
  rw [Go.WideShapes.add_plain]
  rcases Nat.mod_two_eq_zero_or_one j with e | e
  · have hj2 : j = j / 2 * 2 := by omega
    rw [hj2] at hu
    rw [p.1] at hu
    rw [show o + j = o + j / 2 * 2 by omega]
    exact q.1.trans hu
  · have hj2 : j = j / 2 * 2 + 1 := by omega
    rw [hj2] at hu
    rw [p.2] at hu
    rw [show o + j = o + j / 2 * 2 + 1 by omega]
    exact q.2.trans hu
theorem inn_grown {w w' : World} {u : Value} {L : List Nat} {B : Nat} {v : Value} {n : Nat} {xs : List Value} (h : Inn w u L) (ho : w.ownsRow B 28 1 v n xs) (hg : w.grownBy w' v.ownBlock) : Inn w' u L := by
  obtain ⟨b, o, cap, cur, h1, h2, h3, h4⟩ := h
  have hne : some b ≠ v.ownBlock := fun e => by
    rcases ho.2 with ⟨hv, _⟩ | ⟨q, c, cur2, hv, _, hq, _⟩
    · rw [hv] at e; cases e
    · rw [hv] at e
      obtain rfl : b = q := by simpa [Value.ownBlock] using e
      rw [h3] at hq
      injection hq with hq
      injection hq with _ h2
      exact absurd h2 (by decide)
  have key := hg.block b (row_lt h3) hne
  exact ⟨b, o, cap, cur, h1, h2, key.trans h3, fun j k h => ⟨(World.cell?_of_block (a := ⟨b, _, none⟩) key).trans (h4 j k h).1, (World.cell?_of_block (a := ⟨b, _, none⟩) key).trans (h4 j k h).2⟩⟩
/-- a slice of cells of one's own, never nil -/
def OwnI (B : Nat) (w : World) (u : Value) (L : List Nat) : Prop := (∃ b cap, u = .slice (some ⟨b, 0, none⟩) L.length cap) ∧ w.ownsRow B 33 2 u L.length (pxy L)
theorem owni_ext {B : Nat} {w w' : World} {u : Value} {L : List Nat} (h : OwnI B w u L) (hx : Ext w w') : OwnI B w' u L := ⟨h.1, own_ext h.2 hx⟩
theorem owni_mono {B B' : Nat} {w : World} {u : Value} {L : List Nat} (h : OwnI B w u L) (hB : B' ≤ B) : OwnI B' w u L := ⟨h.1, own_mono h.2 hB⟩
theorem owni_inn {B : Nat} {w : World} {u : Value} {L : List Nat} (h : OwnI B w u L) : Inn w u L := by
  obtain ⟨⟨b, cap, rfl⟩, h2⟩ := h
  exact inn_own rfl h2
theorem owni_grown {B : Nat} {w w' : World} {u : Value} {L : List Nat} {C : Nat} {v : Value} {n : Nat} {xs : List Value} (h : OwnI B w u L) (ho : w.ownsRow C 28 1 v n xs) (hg : w.grownBy w' v.ownBlock) : OwnI B w' u L := by
  refine ⟨h.1, h.2.kept hg ?_⟩
  rcases h.2.2 with ⟨hu, _⟩ | ⟨b, cap, cur, hu, _, h3, _⟩
  · rw [hu]; exact .inl rfl
  · right
    intro e
    rcases ho.2 with ⟨hv, _⟩ | ⟨q, c, cur2, hv, _, hq, _⟩
    · rw [hv, hu] at e; cases e
    · rw [hv, hu] at e
      obtain rfl : b = q := by simpa [Value.ownBlock] using e
      rw [h3] at hq
      injection hq with hq
      injection hq with _ h2
      exact absurd h2 (by decide)
/-- a slice of such slices, of the call's own -/
def LLv (w : World) (B : Nat) (vs : List Value) (LL : List (List Nat)) : Prop := vs.length = LL.length ∧ (∀ u ∈ vs, u.oneCell' = true) ∧ ∀ (i : Nat) (u : Value) (L : List Nat), vs[i]? = some u → LL[i]? = some L → OwnI B w u L
def LLs (w : World) (B : Nat) (v : Value) (LL : List (List Nat)) : Prop := ∃ vs, w.ownsRow B 28 1 v LL.length vs ∧ LLv w B vs LL
theorem llv_ext {w w' : World} {B : Nat} {vs : List Value} {LL : List (List Nat)} (h : LLv w B vs LL) (hx : Ext w w') : LLv w' B vs LL := ⟨h.1, h.2.1, fun i u L h1 h2 => owni_ext (h.2.2 i u L h1 h2) hx⟩
theorem llv_mono {w : World} {B B' : Nat} {vs : List Value} {LL : List (List Nat)} (h : LLv w B vs LL) (hB : B' ≤ B) : LLv w B' vs LL := ⟨h.1, h.2.1, fun i u L h1 h2 => owni_mono (h.2.2 i u L h1 h2) hB⟩
theorem lls_ext {w w' : World} {B : Nat} {v : Value} {LL : List (List Nat)} (h : LLs w B v LL) (hx : Ext w w') : LLs w' B v LL := by
  obtain ⟨vs, h1, h2⟩ := h
  exact ⟨vs, own_ext h1 hx, llv_ext h2 hx⟩
theorem lls_mono {w : World} {B B' : Nat} {v : Value} {LL : List (List Nat)} (h : LLs w B v LL) (hB : B' ≤ B) : LLs w B' v LL := by
  obtain ⟨vs, h1, h2⟩ := h
  exact ⟨vs, own_mono h1 hB, llv_mono h2 hB⟩
theorem llv_nil (w : World) (B : Nat) : LLv w B [] [] := ⟨rfl, fun u h => (by cases h), fun i u L h => by simp at h⟩
theorem llv_one {w : World} {B : Nat} {u : Value} {L : List Nat} (h : OwnI B w u L) : LLv w B [u] [L] := by
  refine ⟨rfl, fun x hx => ?_, fun i x M h1 h2 => ?_⟩
  · rw [List.mem_singleton.1 hx]
    obtain ⟨⟨b, cap, h1⟩, _⟩ := h
    rw [h1]; rfl
  · match i, h1, h2 with
    | 0, h1, h2 =>
      simp at h1 h2
      subst h1; subst h2
      exact h
theorem llv_append {w : World} {B : Nat} {vs us : List Value} {LL MM : List (List Nat)} (h : LLv w B vs LL) (k : LLv w B us MM) : LLv w B (vs ++ us) (LL ++ MM) := by
  refine ⟨by rw [List.length_append, List.length_append, h.1, k.1], fun u hu => ?_, fun i u L h1 h2 => ?_⟩
  · rcases List.mem_append.1 hu with h3 | h3
    · exact h.2.1 u h3
    · exact k.2.1 u h3
  · rcases Nat.lt_or_ge i vs.length with hi | hi
    · rw [List.getElem?_append_left hi] at h1
      rw [List.getElem?_append_left (by rw [← h.1]; exact hi)] at h2
      exact h.2.2 i u L h1 h2
    · rw [List.getElem?_append_right hi] at h1
      rw [List.getElem?_append_right (by rw [← h.1]; exact hi), ← h.1] at h2
      exact k.2.2 _ u L h1 h2
theorem llv_grown {w w' : World} {B : Nat} {vs : List Value} {LL : List (List Nat)} {C : Nat} {v : Value} {n : Nat} {xs : List Value} (h : LLv w B vs LL) (ho : w.ownsRow C 28 1 v n xs) (hg : w.grownBy w' v.ownBlock) : LLv w' B vs LL :=
  ⟨h.1, h.2.1, fun i u L h1 h2 => owni_grown (h.2.2 i u L h1 h2) ho hg⟩
end Go.Proofs.Ytlifhoajamnehaa
