/- CovM: contracts of functions, and lemmas, for this seat. Conditions: as each states. -/
import Derived.Test.YtlifhoajamnehaaTileM
set_option linter.unusedVariables false
set_option maxRecDepth 100000
set_option maxHeartbeats 1000000
namespace Go.Proofs.Ytlifhoajamnehaa
open Go Go.RowKit
/-! covers -/
/-- all lists of m of the numbers of o, in order, that make t out of b -/
def kV (f : Nat → Nat) (t : Nat) : List Nat → Nat → Nat → List (List Nat)
  | [], m, b => if m = 0 ∧ b = t then [[]] else []
  | k :: o, m, b => if m = 0 then (if b = t then [[]] else []) else (kV f t o (m - 1) (b ||| f k)).map (k :: ·) ++ kV f t o m b
theorem kV_0 (f : Nat → Nat) (t : Nat) (o : List Nat) (b : Nat) : kV f t o 0 b = if b = t then [[]] else [] := by cases o <;> simp [kV]
theorem kV_nil (f : Nat → Nat) (t m b : Nat) : kV f t [] (m + 1) b = [] := by simp [kV]
theorem kV_cons (f : Nat → Nat) (t k : Nat) (o : List Nat) (m b : Nat) : kV f t (k :: o) (m + 1) b = (kV f t o m (b ||| f k)).map (k :: ·) ++ kV f t o (m + 1) b := by
  rw [kV, if_neg (by omega), Nat.add_sub_cancel]
theorem kV_len (f : Nat → Nat) (t : Nat) : ∀ (o : List Nat) (m b : Nat), o.length < m → kV f t o m b = []
  | [], m, b, h => by
    rw [kV, if_neg]
    intro e
    rw [List.length_nil] at h
    omega
  | k :: o, 0, b, h => absurd h (Nat.not_lt_zero _)
  | k :: o, m + 1, b, h => by
    rw [List.length_cons] at h
    rw [kV_cons, kV_len f t o m _ (by omega), kV_len f t o (m + 1) _ (by omega)]; rfl
theorem cnt_or (a b : Nat) : cnt (a ||| b) ≤ cnt a + cnt b := by
  have key : ∀ k, cntN (a ||| b) k ≤ cntN a k + cntN b k := by
    intro k
    induction k with
    | zero => exact Nat.le_refl _
    | succ k ih =>
      rw [cntN, cntN, cntN, Nat.testBit_or]
      cases a.testBit k <;> cases b.testBit k <;> simp <;> omega
  exact key 36
/-- what a set adds -/
theorem cnt_or_mns (b a : Nat) : cnt (b ||| a) = cnt b + cnt (mns a b) := by
  have key : ∀ k, k ≤ 36 → cntN (b ||| a) k = cntN b k + cntN (mns a b) k := by
    intro k
    induction k with
    | zero => intro _; rfl
    | succ k ih =>
      intro hk
      have i := ih (by omega)
      rw [cntN, cntN, cntN, Nat.testBit_or, testBit_mns a b k (by omega)]
      cases a.testBit k <;> cases b.testBit k <;> simp <;> omega
  exact key 36 (Nat.le_refl _)
theorem kV_prune (f : Nat → Nat) (t S : Nat) (hS : ∀ k, cnt (f k) = S) : ∀ (o : List Nat) (m b : Nat), cnt b + m * S < cnt t → kV f t o m b = []
  | o, 0, b, h => by
    rw [kV_0, if_neg]
    intro e
    subst e
    omega
  | [], m + 1, b, _ => kV_nil f t m b
  | k :: o, m + 1, b, h => by
    have h1 := cnt_or b (f k)
    rw [hS k] at h1
    have e : (m + 1) * S = m * S + S := Nat.succ_mul m S
    rw [kV_cons, kV_prune f t S hS o m _ (by omega), kV_prune f t S hS o (m + 1) b h]; rfl
theorem kV_mem (f : Nat → Nat) (t : Nat) : ∀ (o : List Nat) (m b : Nat) (L : List Nat), L ∈ kV f t o m b → L.length = m ∧ ∀ k ∈ L, k ∈ o
  | o, 0, b, L, h => by
    rw [kV_0] at h
    split at h
    · obtain rfl := List.mem_singleton.1 h
      exact ⟨rfl, fun k hk => by cases hk⟩
    · cases h
  | [], m + 1, b, L, h => by rw [kV_nil] at h; cases h
  | k :: o, m + 1, b, L, h => by
    rw [kV_cons, List.mem_append] at h
    rcases h with h | h
    · obtain ⟨M, hM, rfl⟩ := List.mem_map.1 h
      obtain ⟨h1, h2⟩ := kV_mem f t o m _ M hM
      refine ⟨by rw [List.length_cons, h1], fun j hj => ?_⟩
      rcases List.mem_cons.1 hj with rfl | hj
      · exact List.mem_cons_self
      · exact List.mem_cons_of_mem _ (h2 j hj)
    · obtain ⟨h1, h2⟩ := kV_mem f t o (m + 1) b L h
      exact ⟨h1, fun j hj => List.mem_cons_of_mem _ (h2 j hj)⟩
theorem kV_le (f : Nat → Nat) (t : Nat) : ∀ (o : List Nat) (m b : Nat), (kV f t o m b).length ≤ 2 ^ o.length
  | o, 0, b => by
    rw [kV_0]
    have := Nat.pow_pos (n := o.length) (show 0 < 2 by omega)
    split <;> simp <;> omega
  | [], m + 1, b => by rw [kV_nil]; simp
  | k :: o, m + 1, b => by
    have h1 := kV_le f t o m (b ||| f k)
    have h2 := kV_le f t o (m + 1) b
    rw [kV_cons, List.length_append, List.length_map, List.length_cons, Nat.pow_succ]
    omega
/-- the first of six lists that is not empty -/
def bk (K : Nat → List (List Nat)) : Nat → Nat → List (List Nat)
  | _, 0 => []
  | m, n + 1 => if K m = [] then bk K (m + 1) n else K m
theorem cnt_pr6 (m k : Nat) : cnt (pr6 m k) = cnt m := by
  unfold pr6
  rcases Nat.lt_or_ge (k / 6) 6 with h4 | h4
  · exact cnt_sh m (k % 6) (k / 6) (by omega) h4
  · rw [sh_big m _ _ h4]
    exact cnt_sh m (k % 6) 0 (by omega) (by omega)
/-! the greedy way -/
/-- of the first j numbers of L the place of the one that adds most, and how many it adds -/
def gi (f : Nat → Nat) (b : Nat) (L : List Nat) : Nat → Nat × Int
  | 0 => (0, -1)
  | j + 1 => if (gi f b L j).2 < (cnt (mns (f L[j]!) b) : Nat) then (j, (cnt (mns (f L[j]!) b) : Nat)) else gi f b L j
theorem gi_facts (f : Nat → Nat) (b : Nat) (L : List Nat) : ∀ j, 0 < j → (gi f b L j).1 < j ∧ (gi f b L j).2 = (cnt (mns (f L[(gi f b L j).1]!) b) : Nat) ∧ ∀ i, i < j → (cnt (mns (f L[i]!) b) : Int) ≤ (gi f b L j).2
  | 0, h => absurd h (Nat.lt_irrefl 0)
  | 1, _ => by
    have e : gi f b L 1 = (0, ((cnt (mns (f L[0]!) b) : Nat) : Int)) := by
      unfold gi; unfold gi; exact if_pos (show (-1 : Int) < _ by omega)
    rw [e]
    refine ⟨by simp, rfl, fun i hi => ?_⟩
    obtain rfl : i = 0 := by omega
    exact Int.le_refl _
  | j + 2, _ => by
    obtain ⟨h1, h2, h3⟩ := gi_facts f b L (j + 1) (by omega)
    rw [gi]
    split
    · rename_i hlt
      refine ⟨by simp, rfl, fun i hi => ?_⟩
      rcases Nat.lt_or_ge i (j + 1) with h | h
      · have := h3 i h
        dsimp only
        omega
      · obtain rfl : i = j + 1 := by omega
        exact Int.le_refl _
    · rename_i hlt
      refine ⟨by omega, h2, fun i hi => ?_⟩
      rcases Nat.lt_or_ge i (j + 1) with h | h
      · exact h3 i h
      · obtain rfl : i = j + 1 := by omega
        omega
/-- what is black, and the cells, after j presses -/
def gB (f : Nat → Nat) (L : List Nat) : Nat → Nat × List Nat
  | 0 => (0, [])
  | j + 1 => ((gB f L j).1 ||| f L[(gi f (gB f L j).1 L L.length).1]!, (gB f L j).2 ++ [L[(gi f (gB f L j).1 L L.length).1]!])
theorem gB_len (f : Nat → Nat) (L : List Nat) : ∀ j, (gB f L j).2.length = j
  | 0 => rfl
  | j + 1 => by rw [gB, List.length_append, gB_len f L j]; rfl
theorem gB_lt (f : Nat → Nat) (hf : ∀ k, f k < 68719476736) (L : List Nat) : ∀ j, (gB f L j).1 < 68719476736
  | 0 => (by omega : (0 : Nat) < 68719476736)
  | j + 1 => or36 (gB_lt f hf L j) (hf _)
/-- each press adds a cell, as long as not all are black -/
theorem gB_grow (f : Nat → Nat) (hf : ∀ k, f k < 68719476736) (t : Nat) (ht : t < 68719476736) (L : List Nat) (hop : ∀ k ∈ L, prt (f k) t = true) (hall : ∀ q, q < 36 → t.testBit q = true → ∃ k ∈ L, (f k).testBit q = true) :
    ∀ j, (∀ i, i < j → (gB f L i).1 ≠ t) → prt (gB f L j).1 t = true ∧ j ≤ cnt (gB f L j).1 ∧ (0 < j → ∀ k ∈ (gB f L j).2, k ∈ L)
  | 0, _ => ⟨by unfold prt; rw [gB]; simp, Nat.zero_le _, fun h => absurd h (Nat.lt_irrefl 0)⟩
  | j + 1, hne => by
    obtain ⟨h1, h2, h3⟩ := gB_grow f hf t ht L hop hall j fun i hi => hne i (by omega)
    have hb := gB_lt f hf L j
    have hn := hne j (Nat.lt_succ_self j)
    rw [gB]
    generalize hbk : (gB f L j).1 = b at *
    -- a cell that is not black yet
    obtain ⟨q, hq, hqt, hqb⟩ : ∃ q, q < 36 ∧ t.testBit q = true ∧ b.testBit q = false := by
      by_cases h : ∃ q, q < 36 ∧ t.testBit q = true ∧ b.testBit q = false
      · exact h
      · refine absurd (ext36 hb ht fun k hk => ?_) hn
        cases h4 : t.testBit k
        · cases h5 : b.testBit k
          · rfl
          · have := (prt_iff t hb).1 h1 k hk h5
            rw [h4] at this; cases this
        · cases h5 : b.testBit k
          · exact absurd ⟨k, hk, h4, h5⟩ h
          · rfl
    obtain ⟨k, hkL, hkq⟩ := hall q hq hqt
    obtain ⟨i, hi, hik⟩ := List.getElem_of_mem hkL
    have hlen : 0 < L.length := by omega
    obtain ⟨g1, g2, g3⟩ := gi_facts f b L L.length hlen
    have g4 := g3 i hi
    have hbest : L[(gi f b L L.length).1]! ∈ L := by
      rw [getElem!_pos L _ g1]
      exact List.getElem_mem g1
    have hpos : 0 < cnt (mns (f L[i]!) b) := by
      rw [getElem!_pos L i hi, hik]
      refine cnt_pos (mns_lt _ (hf k)) (bit_ne (q := q) ?_)
      rw [testBit_mns _ _ q hq, hkq, hqb]; rfl
    generalize (gi f b L L.length) = G at *
    have hc := cnt_or_mns b (f L[G.1]!)
    refine ⟨?_, by dsimp only; omega, fun _ x hx => ?_⟩
    · refine (prt_iff t (or36 hb (hf _))).2 fun x hx hxb => ?_
      rw [Nat.testBit_or, Bool.or_eq_true] at hxb
      rcases hxb with hxb | hxb
      · exact (prt_iff t hb).1 h1 x hx hxb
      · exact (prt_iff t (hf _)).1 (hop _ hbest) x hx hxb
    · rcases List.mem_append.1 hx with hx | hx
      · rcases Nat.eq_zero_or_pos j with rfl | hj
        · rw [gB] at hx; cases hx
        · exact h3 hj x hx
      · obtain rfl := List.mem_singleton.1 hx
        exact hbest
/-- how many presses there are -/
theorem gB_end (f : Nat → Nat) (hf : ∀ k, f k < 68719476736) (t : Nat) (ht : t < 68719476736) (L : List Nat) (hop : ∀ k ∈ L, prt (f k) t = true) (hall : ∀ q, q < 36 → t.testBit q = true → ∃ k ∈ L, (f k).testBit q = true) :
    ∃ N, N ≤ 36 ∧ (gB f L N).1 = t ∧ ∀ i, i < N → (gB f L i).1 ≠ t := by
  have key : ∀ n, (∃ N, N ≤ n ∧ (gB f L N).1 = t ∧ ∀ i, i < N → (gB f L i).1 ≠ t) ∨ ∀ i, i ≤ n → (gB f L i).1 ≠ t := by
    intro n
    induction n with
    | zero =>
      by_cases h : (gB f L 0).1 = t
      · exact .inl ⟨0, Nat.le_refl _, h, fun i hi => absurd hi (Nat.not_lt_zero _)⟩
      · refine .inr fun i hi => ?_
        obtain rfl : i = 0 := by omega
        exact h
    | succ n ih =>
      rcases ih with ⟨N, h1, h2, h3⟩ | h
      · exact .inl ⟨N, by omega, h2, h3⟩
      · by_cases h4 : (gB f L (n + 1)).1 = t
        · exact .inl ⟨n + 1, Nat.le_refl _, h4, fun i hi => h i (by omega)⟩
        · refine .inr fun i hi => ?_
          rcases Nat.lt_or_ge i (n + 1) with h5 | h5
          · exact h i (by omega)
          · obtain rfl : i = n + 1 := by omega
            exact h4
  rcases key 36 with h | h
  · exact h
  · have h1 := (gB_grow f hf t ht L hop hall 36 fun i hi => h i (by omega))
    have h2 := (gB_grow f hf t ht L hop hall 37 fun i hi => h i (by omega)).2.1
    have h3 := cnt_le (gB f L 37).1
    omega
/-- what presses at all cells of a list make black -/
theorem testBit_inkL (m : Nat) (q : Nat) : ∀ (L : List Nat) (b : Nat), (L.foldl (fun o k => o ||| sh m (k % 6) (k / 6)) b).testBit q = true → b.testBit q = true ∨ ∃ k ∈ L, (pr6 m k).testBit q = true
  | [], b, h => .inl h
  | k :: L, b, h => by
    rcases testBit_inkL m q L _ h with h1 | ⟨j, hj, h1⟩
    · rw [Nat.testBit_or, Bool.or_eq_true] at h1
      rcases h1 with h1 | h1
      · exact .inl h1
      · exact .inr ⟨k, List.mem_cons_self, h1⟩
    · exact .inr ⟨j, List.mem_cons_of_mem _ hj, h1⟩
theorem inkL_bit (m q : Nat) (L : List Nat) (h : (inkL m L).testBit q = true) : ∃ k ∈ L, (pr6 m k).testBit q = true := by
  rcases testBit_inkL m q L 0 h with h1 | h1
  · rw [Nat.zero_testBit] at h1; cases h1
  · exact h1
theorem gB_mem (f : Nat → Nat) (L : List Nat) (hG : ∀ (i k : Nat), L[i]? = some k → k < 36) (h0 : 0 < L.length) : ∀ (j i k : Nat), (gB f L j).2[i]? = some k → k < 36
  | 0, i, k, h => by unfold gB at h; simp at h
  | j + 1, i, k, h => by
    rw [gB] at h
    obtain ⟨g1, _⟩ := gi_facts f (gB f L j).1 L L.length h0
    have hm := List.mem_of_getElem? h
    rcases List.mem_append.1 hm with h1 | h1
    · obtain ⟨q, hq, e⟩ := List.getElem_of_mem h1
      exact gB_mem f L hG h0 j q k (by rw [List.getElem?_eq_getElem hq, e])
    · obtain rfl := List.mem_singleton.1 h1
      refine hG (gi f (gB f L j).1 L L.length).1 _ ?_
      rw [getElem!_pos L _ g1, List.getElem?_eq_getElem g1]
theorem gi_1 (f : Nat → Nat) (b : Nat) (L : List Nat) (j : Nat) : gi f b L (j + 1) = if (gi f b L j).2 < (cnt (mns (f L[j]!) b) : Nat) then (j, ((cnt (mns (f L[j]!) b) : Nat) : Int)) else gi f b L j := rfl
theorem gi_0 (f : Nat → Nat) (b : Nat) (L : List Nat) : gi f b L 0 = (0, -1) := rfl
theorem gB_0 (f : Nat → Nat) (L : List Nat) : gB f L 0 = (0, []) := rfl
theorem gB_1 (f : Nat → Nat) (L : List Nat) (j : Nat) : gB f L (j + 1) = ((gB f L j).1 ||| f L[(gi f (gB f L j).1 L L.length).1]!, (gB f L j).2 ++ [L[(gi f (gB f L j).1 L L.length).1]!]) := rfl
attribute [irreducible] gi gB
end Go.Proofs.Ytlifhoajamnehaa
