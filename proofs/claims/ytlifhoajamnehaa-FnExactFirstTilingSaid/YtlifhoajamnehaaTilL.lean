/- TilL: contracts of functions, and lemmas, for this seat. Conditions: as each states. -/
import Derived.Test.YtlifhoajamnehaaTileM
import Derived.Test.YtlifhoajamnehaaLists
set_option linter.unusedVariables false
set_option maxRecDepth 100000
set_option maxHeartbeats 1000000
namespace Go.Proofs.Ytlifhoajamnehaa
open Go Go.RowKit
theorem fl_first0 {z : Nat} (hz : z < 68719476736) (h : z ≠ 0) : ∃ q, (fl z.testBit 36)[0]? = some q ∧ q < 36 ∧ z.testBit q = true := by
  cases hl : fl z.testBit 36 with
  | nil =>
    refine absurd (ext36 hz (by omega) fun k hk => ?_) h
    rw [Nat.zero_testBit]
    cases hb : z.testBit k
    · rfl
    · have : k ∈ fl z.testBit 36 := List.mem_filter.2 ⟨List.mem_range.2 hk, hb⟩
      rw [hl] at this; cases this
  | cons q L =>
    refine ⟨q, by simp, ?_⟩
    have : q ∈ fl z.testBit 36 := by rw [hl]; exact List.mem_cons_self
    obtain ⟨h1, h2⟩ := List.mem_filter.1 this
    exact ⟨List.mem_range.1 h1, h2⟩
theorem cnt_less0 {a z : Nat} (ha : a < 68719476736) (h0 : a ≠ 0) (h : prt a z = true) : cnt (mns z a) < cnt z := by
  have := cnt_mns z ha h
  have := cnt_pos ha h0
  omega
/-- the first cell of a set -/
def fstB (z : Nat) : Nat := ((fl z.testBit 36)[0]?).getD 0
/-- all tilings, as the program tells them -/
def tI (f : Nat → Nat) (L : List Nat) : Nat → Nat → List Nat → List (List Nat)
  | 0, _, _ => []
  | N + 1, z, D => if z = 0 then [D] else L.flatMap fun k => if ((f k).testBit (fstB z) && prt (f k) z) = true then tI f L N (mns z (f k)) (D ++ [k]) else []
def tG (f : Nat → Nat) (L : List Nat) (N z : Nat) (D : List Nat) (k : Nat) : List (List Nat) := if ((f k).testBit (fstB z) && prt (f k) z) = true then tI f L N (mns z (f k)) (D ++ [k]) else []
theorem tI_0 (f : Nat → Nat) (L : List Nat) (N : Nat) (D : List Nat) : tI f L (N + 1) 0 D = [D] := by rw [tI, if_pos rfl]
theorem tI_s (f : Nat → Nat) (L : List Nat) (N : Nat) {z : Nat} (h : z ≠ 0) (D : List Nat) : tI f L (N + 1) z D = L.flatMap (tG f L N z D) := by rw [tI, if_neg h]; rfl
theorem tG_t {f : Nat → Nat} {L : List Nat} {N z : Nat} {D : List Nat} {k : Nat} (h1 : (f k).testBit (fstB z) = true) (h2 : prt (f k) z = true) : tG f L N z D k = tI f L N (mns z (f k)) (D ++ [k]) := by unfold tG; rw [h1, h2]; rfl
theorem tG_f {f : Nat → Nat} {L : List Nat} {N z : Nat} {D : List Nat} {k : Nat} (h : ((f k).testBit (fstB z) && prt (f k) z) = false) : tG f L N z D k = [] := by unfold tG; rw [h]; rfl
theorem tI_len (f : Nat → Nat) (hf : ∀ k, f k < 68719476736) (h0 : ∀ k, f k ≠ 0) (L : List Nat) : ∀ (N z : Nat) (D : List Nat), cnt z < N → z < 68719476736 → (tI f L N z D).length = cT f L z
  | 0, _, _, hN, _ => absurd hN (Nat.not_lt_zero _)
  | N + 1, z, D, hN, hz => by
    by_cases hz0 : z = 0
    · subst hz0
      rw [tI_0, cT_0 f hf h0]; rfl
    · obtain ⟨q, hq0, hq, hqz⟩ := fl_first0 hz hz0
      have hfq : fstB z = q := by unfold fstB; rw [hq0]; rfl
      rw [tI_s f L N hz0, cT_first f hf h0 q hq L z hqz]
      have key : ∀ l : List Nat, (l.flatMap (tG f L N z D)).length = sT f q L z l := by
        intro l
        induction l with
        | nil => rfl
        | cons k l ih =>
          rw [List.flatMap_cons, List.length_append, ih, sT]
          congr 1
          unfold tG
          rw [hfq]
          split
          · rename_i h
            rw [Bool.and_eq_true] at h
            exact tI_len f hf h0 L N _ _ (by have := cnt_less0 (hf k) (h0 k) h.2; omega) (mns_lt _ hz)
          · rfl
      exact key L
/-- of the first j of a list -/
def tJ (g : Nat → List (List Nat)) (L : List Nat) (j : Nat) : List (List Nat) := (L.take j).flatMap g
theorem tJ_0 (g : Nat → List (List Nat)) (L : List Nat) : tJ g L 0 = [] := rfl
theorem tJ_s (g : Nat → List (List Nat)) (L : List Nat) {j k : Nat} (h : L[j]? = some k) : tJ g L (j + 1) = tJ g L j ++ g k := by
  unfold tJ
  rw [List.take_add_one, h, List.flatMap_append]
  simp
theorem tJ_all (g : Nat → List (List Nat)) (L : List Nat) : tJ g L L.length = L.flatMap g := by unfold tJ; rw [List.take_length]
theorem tJ_le (g : Nat → List (List Nat)) (L : List Nat) (j : Nat) : (tJ g L j).length ≤ (L.flatMap g).length := by
  have h : L.flatMap g = (L.take j).flatMap g ++ (L.drop j).flatMap g := by rw [← List.flatMap_append, List.take_append_drop]
  rw [h, List.length_append]
  exact Nat.le_add_right _ _
attribute [irreducible] tJ
/-- all tilings, as the reference tells them -/
def tl (f : Nat → Nat) : List Nat → Nat → List Nat → List (List Nat)
  | [], z, D => if z = 0 then [D] else []
  | k :: O, z, D => if z = 0 then [D] else (if prt (f k) z = true then tl f O (mns z (f k)) (D ++ [k]) else []) ++ tl f O z D
theorem tl_0 (f : Nat → Nat) (O : List Nat) (D : List Nat) : tl f O 0 D = [D] := by cases O <;> simp [tl]
theorem tl_nil (f : Nat → Nat) {z : Nat} (h : z ≠ 0) (D : List Nat) : tl f [] z D = [] := by rw [tl, if_neg h]
theorem tl_cons (f : Nat → Nat) {z : Nat} (h : z ≠ 0) (k : Nat) (O : List Nat) (D : List Nat) : tl f (k :: O) z D = (if prt (f k) z = true then tl f O (mns z (f k)) (D ++ [k]) else []) ++ tl f O z D := by rw [tl, if_neg h]
theorem tl_len (f : Nat → Nat) (hf : ∀ k, f k < 68719476736) (h0 : ∀ k, f k ≠ 0) : ∀ (O : List Nat) (z : Nat) (D : List Nat), (tl f O z D).length = cT f O z
  | [], z, D => by rw [tl, cT]; split <;> rfl
  | k :: O, z, D => by
    by_cases hz : z = 0
    · subst hz
      rw [tl_0, cT_0 f hf h0]; rfl
    · rw [tl_cons f hz, List.length_append, cT, tl_len f hf h0 O z D]
      split
      · rw [tl_len f hf h0 O _ _]; omega
      · simp
/-- what the reference has told behind the first i -/
def tA (f : Nat → Nat) (O : List Nat) (z : Nat) (D : List Nat) : Nat → List (List Nat)
  | 0 => []
  | i + 1 => tA f O z D i ++ (if prt (f O[i]!) z = true then tl f (O.drop (i + 1)) (mns z (f O[i]!)) (D ++ [O[i]!]) else [])
theorem tA_0 (f : Nat → Nat) (O : List Nat) (z : Nat) (D : List Nat) : tA f O z D 0 = [] := rfl
theorem tA_s (f : Nat → Nat) (O : List Nat) (z : Nat) (D : List Nat) {i k : Nat} (h : O[i]? = some k) : tA f O z D (i + 1) = tA f O z D i ++ (if prt (f k) z = true then tl f (O.drop (i + 1)) (mns z (f k)) (D ++ [k]) else []) := by
  obtain ⟨h1, h2⟩ := List.getElem?_eq_some_iff.1 h
  rw [tA, getElem!_pos O i h1, h2]
theorem tA_drop (f : Nat → Nat) (O : List Nat) {z : Nat} (hz : z ≠ 0) (D : List Nat) : ∀ i, i ≤ O.length → tA f O z D i ++ tl f (O.drop i) z D = tl f O z D
  | 0, _ => by rw [tA_0]; rfl
  | i + 1, h => by
    have h1 : O[i]? = some O[i] := List.getElem?_eq_getElem (by omega)
    have h2 := tA_drop f O hz D i (by omega)
    rw [List.drop_eq_getElem_cons (by omega), tl_cons f hz, ← List.append_assoc] at h2
    rw [tA_s f O z D h1]
    exact h2
theorem tA_all (f : Nat → Nat) (O : List Nat) {z : Nat} (hz : z ≠ 0) (D : List Nat) : tA f O z D O.length = tl f O z D := by
  have := tA_drop f O hz D O.length (Nat.le_refl _)
  rwa [List.drop_length, tl_nil f hz, List.append_nil] at this
theorem tA_le (f : Nat → Nat) (O : List Nat) {z : Nat} (hz : z ≠ 0) (D : List Nat) {i : Nat} (h : i ≤ O.length) : (tA f O z D i).length ≤ (tl f O z D).length := by
  rw [← tA_drop f O hz D i h, List.length_append]
  exact Nat.le_add_right _ _
attribute [irreducible] tA
end Go.Proofs.Ytlifhoajamnehaa
