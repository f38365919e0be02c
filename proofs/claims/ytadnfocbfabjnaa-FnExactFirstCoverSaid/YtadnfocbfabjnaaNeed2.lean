/- Need2: contracts of functions, and lemmas, for this seat. Conditions: as each states. -/
import Derived.Test.YtadnfocbfabjnaaNeed
import Derived.Test.YtadnfocbfabjnaaCat
set_option linter.unusedVariables false
set_option maxRecDepth 100000
set_option maxHeartbeats 2000000
namespace Go.Proofs.Ytadnfocbfabjnaa
open Go Go.RowKit Instr
/-- the first i of a list, kept as told -/
def ndG (p : Nat → Bool) (L : List Nat) : Nat → List Nat
  | 0 => []
  | i + 1 => ndG p L i ++ (if p i then [L[i]!] else [])
theorem ndG_0 (p : Nat → Bool) (L : List Nat) : ndG p L 0 = [] := rfl
theorem ndG_t (p : Nat → Bool) (L : List Nat) (i k : Nat) (h : p i = true) (hk : L[i]? = some k) : ndG p L (i + 1) = ndG p L i ++ [k] := by
  obtain ⟨h1, h2⟩ := List.getElem?_eq_some_iff.1 hk
  rw [ndG, h, if_pos rfl, getElem!_pos L i h1, h2]
theorem ndG_f (p : Nat → Bool) (L : List Nat) (i : Nat) (h : p i = false) : ndG p L (i + 1) = ndG p L i := by
  rw [ndG, h, if_neg (by decide), List.append_nil]
theorem ndG_len (p : Nat → Bool) (L : List Nat) : ∀ i, (ndG p L i).length ≤ i
  | 0 => Nat.le_refl _
  | i + 1 => by
    have := ndG_len p L i
    rw [ndG, List.length_append]
    split <;> simp <;> omega
theorem ndG_mem (p : Nat → Bool) (L : List Nat) (hG : ∀ (i k : Nat), L[i]? = some k → k < 36) : ∀ j, j ≤ L.length → ∀ (i k : Nat), (ndG p L j)[i]? = some k → k < 36
  | 0, _, i, k, h => by rw [ndG_0] at h; simp at h
  | j + 1, hj, i, k, h => by
    have hk : L[j]? = some L[j] := List.getElem?_eq_getElem (by omega)
    cases hp : p j
    · rw [ndG_f p L j hp] at h
      exact ndG_mem p L hG j (by omega) i k h
    · rw [ndG_t p L j _ hp hk] at h
      rcases Nat.lt_or_ge i (ndG p L j).length with hi | hi
      · rw [List.getElem?_append_left hi] at h
        exact ndG_mem p L hG j (by omega) i k h
      · rw [List.getElem?_append_right hi] at h
        match hq : i - (ndG p L j).length, h with
        | 0, h => simp at h; subst h; exact hG _ _ hk
attribute [irreducible] ndG
/-- is the cell at place i needed? -/
def ndP (n m : Nat) (L : List Nat) (i : Nat) : Bool := decide (inkL n (L.take i ++ L.drop (i + 1)) ≠ m)
theorem own_cap {w : World} {B : Nat} {e : TypeId} {size : Nat} {ao : Option Addr} {n cap : Nat} {xs : List Value} (h : w.ownsRow B e size (.slice ao n cap) n xs) : n ≤ cap := by
  rcases h.2 with ⟨hv, hn⟩ | ⟨g, c, cur, hv, hb, hg, hn, _⟩
  · injection hv with _ h1 h2; omega
  · injection hv with _ _ h2; omega
theorem ints_take (L : List Nat) (j : Nat) : ints (L.take j) = (ints L).take j := by unfold ints; exact List.map_take
theorem ints_drop (L : List Nat) (j : Nat) : ints (L.drop j) = (ints L).drop j := by unfold ints; exact List.map_drop
/-- a slice of two values, just made -/
def Two (V1 V2 v : Value) (w : World) : Prop := ∃ b, v = .slice (some ⟨b, 0, none⟩) 2 2 ∧ b < w.heap.size ∧ w.cell? ⟨b, 0, none⟩ = some V1 ∧ w.cell? ⟨b, 1, none⟩ = some V2
theorem two_stable (V1 V2 v : Value) : Stable (Two V1 V2 v) := fun w w' hx ⟨b, h1, h2, h3, h4⟩ => ⟨b, h1, Nat.lt_of_lt_of_le h2 hx.size, (hx.cells _ _ h2).trans h3, (hx.cells _ _ h2).trans h4⟩
theorem NeededCells_ok (n m : Nat) (hn : n < 68719476736) (hm : m < 68719476736) (h : canP n m = true) (L : List Nat) (hL : L = fl (opP n m) 36) (D : List Nat) (hD : D = ndG (ndP n m L) L L.length) (w : World) :
    Calls Try.prog 100 #[(.agg #[.int .i64 (rw n 0), .int .i64 (rw n 1), .int .i64 (rw n 2), .int .i64 (rw n 3), .int .i64 (rw n 4), .int .i64 (rw n 5)]), (.agg #[.int .i64 (rw m 0), .int .i64 (rw m 1), .int .i64 (rw m 2), .int .i64 (rw m 3), .int .i64 (rw m 4), .int .i64 (rw m 5)])] w fun e w' => ∃ v, e = .returned (.tuple #[v, .bool true]) ∧ Ext w w' ∧ w'.ownsRow w.heap.size 33 2 v D.length (pxy D) := by
  obtain ⟨i0, hi, iz0, iz1, iz2⟩ := info_parts info_int
  have HC := Lib.hid (fun w => canInk_n n m hn hm w)
  rw [h] at HC
  have HO := Lib.hid (fun w => open_n n m hm hn w)
  rw [← hL] at HO
  have HG0 : ∀ (i k : Nat), (fl (opP n m) 36)[i]? = some k → k < 36 := fun i k h => fl_lt h
  rw [← hL] at HG0
  have HG := Lib.hid HG0
  clear HG0
  have hlen : L.length ≤ 36 := by rw [hL]; exact fl_le (opP n m) 36
  clear h hL
  have hDl : D.length ≤ 36 := by rw [hD]; exact Nat.le_trans (ndG_len _ _ _) hlen
  have HDG : ∀ (i k : Nat), D[i]? = some k → k < 36 := by rw [hD]; exact ndG_mem (ndP n m L) L HG.out L.length (Nat.le_refl _)
  subst hD
  have HCO := Lib.hid (fun B v w ho => cellsOf_n _ HDG (by omega) B v w ho)
  skip
  go_enter Try.func100, Try.ntmps100
  go_wp2_with (first | (go_at_call 115; refine (twoSets_n n m hn hm _).mono ?_; rintro e w1 ⟨rfl, hE⟩; replace k0_0 : w1.cell? ⟨w.heap.size, 0, none⟩ = some (.int .i64 (rw n 0)) := (hE.cells _ _ (by first | exact l0 | (simp; done) | (simp; omega))).trans (by first | exact k0_0 | (go_simp; done)); replace k0_1 : w1.cell? ⟨w.heap.size, 1, none⟩ = some (.int .i64 (rw n 1)) := (hE.cells _ _ (by first | exact l0 | (simp; done) | (simp; omega))).trans (by first | exact k0_1 | (go_simp; done)); replace k0_2 : w1.cell? ⟨w.heap.size, 2, none⟩ = some (.int .i64 (rw n 2)) := (hE.cells _ _ (by first | exact l0 | (simp; done) | (simp; omega))).trans (by first | exact k0_2 | (go_simp; done)); replace k0_3 : w1.cell? ⟨w.heap.size, 3, none⟩ = some (.int .i64 (rw n 3)) := (hE.cells _ _ (by first | exact l0 | (simp; done) | (simp; omega))).trans (by first | exact k0_3 | (go_simp; done)); replace k0_4 : w1.cell? ⟨w.heap.size, 4, none⟩ = some (.int .i64 (rw n 4)) := (hE.cells _ _ (by first | exact l0 | (simp; done) | (simp; omega))).trans (by first | exact k0_4 | (go_simp; done)); replace k0_5 : w1.cell? ⟨w.heap.size, 5, none⟩ = some (.int .i64 (rw n 5)) := (hE.cells _ _ (by first | exact l0 | (simp; done) | (simp; omega))).trans (by first | exact k0_5 | (go_simp; done)); replace k1_0 : w1.cell? ⟨w.heap.size + 1, 0, none⟩ = some (.int .i64 (rw m 0)) := (hE.cells _ _ (by first | exact l1 | (simp; done) | (simp; omega))).trans (by first | exact k1_0 | (go_simp; done)); replace k1_1 : w1.cell? ⟨w.heap.size + 1, 1, none⟩ = some (.int .i64 (rw m 1)) := (hE.cells _ _ (by first | exact l1 | (simp; done) | (simp; omega))).trans (by first | exact k1_1 | (go_simp; done)); replace k1_2 : w1.cell? ⟨w.heap.size + 1, 2, none⟩ = some (.int .i64 (rw m 2)) := (hE.cells _ _ (by first | exact l1 | (simp; done) | (simp; omega))).trans (by first | exact k1_2 | (go_simp; done)); replace k1_3 : w1.cell? ⟨w.heap.size + 1, 3, none⟩ = some (.int .i64 (rw m 3)) := (hE.cells _ _ (by first | exact l1 | (simp; done) | (simp; omega))).trans (by first | exact k1_3 | (go_simp; done)); replace k1_4 : w1.cell? ⟨w.heap.size + 1, 4, none⟩ = some (.int .i64 (rw m 4)) := (hE.cells _ _ (by first | exact l1 | (simp; done) | (simp; omega))).trans (by first | exact k1_4 | (go_simp; done)); replace k1_5 : w1.cell? ⟨w.heap.size + 1, 5, none⟩ = some (.int .i64 (rw m 5)) := (hE.cells _ _ (by first | exact l1 | (simp; done) | (simp; omega))).trans (by first | exact k1_5 | (go_simp; done)); replace l0 : w.heap.size < w1.heap.size := Nat.lt_of_lt_of_le (by first | exact l0 | (simp; done) | (simp; omega)) hE.size; replace l1 : w.heap.size + 1 < w1.heap.size := Nat.lt_of_lt_of_le (by first | exact l1 | (simp; done) | (simp; omega)) hE.size) | (go_at_call 182; refine (HC.out _).mono ?_; rintro e w1 ⟨rfl, hE⟩; replace k0_0 : w1.cell? ⟨w.heap.size, 0, none⟩ = some (.int .i64 (rw n 0)) := (hE.cells _ _ (by first | exact l0 | (simp; done) | (simp; omega))).trans (by first | exact k0_0 | (go_simp; done)); replace k0_1 : w1.cell? ⟨w.heap.size, 1, none⟩ = some (.int .i64 (rw n 1)) := (hE.cells _ _ (by first | exact l0 | (simp; done) | (simp; omega))).trans (by first | exact k0_1 | (go_simp; done)); replace k0_2 : w1.cell? ⟨w.heap.size, 2, none⟩ = some (.int .i64 (rw n 2)) := (hE.cells _ _ (by first | exact l0 | (simp; done) | (simp; omega))).trans (by first | exact k0_2 | (go_simp; done)); replace k0_3 : w1.cell? ⟨w.heap.size, 3, none⟩ = some (.int .i64 (rw n 3)) := (hE.cells _ _ (by first | exact l0 | (simp; done) | (simp; omega))).trans (by first | exact k0_3 | (go_simp; done)); replace k0_4 : w1.cell? ⟨w.heap.size, 4, none⟩ = some (.int .i64 (rw n 4)) := (hE.cells _ _ (by first | exact l0 | (simp; done) | (simp; omega))).trans (by first | exact k0_4 | (go_simp; done)); replace k0_5 : w1.cell? ⟨w.heap.size, 5, none⟩ = some (.int .i64 (rw n 5)) := (hE.cells _ _ (by first | exact l0 | (simp; done) | (simp; omega))).trans (by first | exact k0_5 | (go_simp; done)); replace k1_0 : w1.cell? ⟨w.heap.size + 1, 0, none⟩ = some (.int .i64 (rw m 0)) := (hE.cells _ _ (by first | exact l1 | (simp; done) | (simp; omega))).trans (by first | exact k1_0 | (go_simp; done)); replace k1_1 : w1.cell? ⟨w.heap.size + 1, 1, none⟩ = some (.int .i64 (rw m 1)) := (hE.cells _ _ (by first | exact l1 | (simp; done) | (simp; omega))).trans (by first | exact k1_1 | (go_simp; done)); replace k1_2 : w1.cell? ⟨w.heap.size + 1, 2, none⟩ = some (.int .i64 (rw m 2)) := (hE.cells _ _ (by first | exact l1 | (simp; done) | (simp; omega))).trans (by first | exact k1_2 | (go_simp; done)); replace k1_3 : w1.cell? ⟨w.heap.size + 1, 3, none⟩ = some (.int .i64 (rw m 3)) := (hE.cells _ _ (by first | exact l1 | (simp; done) | (simp; omega))).trans (by first | exact k1_3 | (go_simp; done)); replace k1_4 : w1.cell? ⟨w.heap.size + 1, 4, none⟩ = some (.int .i64 (rw m 4)) := (hE.cells _ _ (by first | exact l1 | (simp; done) | (simp; omega))).trans (by first | exact k1_4 | (go_simp; done)); replace k1_5 : w1.cell? ⟨w.heap.size + 1, 5, none⟩ = some (.int .i64 (rw m 5)) := (hE.cells _ _ (by first | exact l1 | (simp; done) | (simp; omega))).trans (by first | exact k1_5 | (go_simp; done)); replace l0 : w.heap.size < w1.heap.size := Nat.lt_of_lt_of_le (by first | exact l0 | (simp; done) | (simp; omega)) hE.size; replace l1 : w.heap.size + 1 < w1.heap.size := Nat.lt_of_lt_of_le (by first | exact l1 | (simp; done) | (simp; omega)) hE.size) | ((go_at_call 153; refine (HO.out _).mono ?_; rintro e w1 ⟨v0, rfl, hE, ho⟩; replace k0_0 : w1.cell? ⟨w.heap.size, 0, none⟩ = some (.int .i64 (rw n 0)) := (hE.cells _ _ (by first | exact l0 | (simp; done) | (simp; omega))).trans (by first | exact k0_0 | (go_simp; done)); replace k0_1 : w1.cell? ⟨w.heap.size, 1, none⟩ = some (.int .i64 (rw n 1)) := (hE.cells _ _ (by first | exact l0 | (simp; done) | (simp; omega))).trans (by first | exact k0_1 | (go_simp; done)); replace k0_2 : w1.cell? ⟨w.heap.size, 2, none⟩ = some (.int .i64 (rw n 2)) := (hE.cells _ _ (by first | exact l0 | (simp; done) | (simp; omega))).trans (by first | exact k0_2 | (go_simp; done)); replace k0_3 : w1.cell? ⟨w.heap.size, 3, none⟩ = some (.int .i64 (rw n 3)) := (hE.cells _ _ (by first | exact l0 | (simp; done) | (simp; omega))).trans (by first | exact k0_3 | (go_simp; done)); replace k0_4 : w1.cell? ⟨w.heap.size, 4, none⟩ = some (.int .i64 (rw n 4)) := (hE.cells _ _ (by first | exact l0 | (simp; done) | (simp; omega))).trans (by first | exact k0_4 | (go_simp; done)); replace k0_5 : w1.cell? ⟨w.heap.size, 5, none⟩ = some (.int .i64 (rw n 5)) := (hE.cells _ _ (by first | exact l0 | (simp; done) | (simp; omega))).trans (by first | exact k0_5 | (go_simp; done)); replace k1_0 : w1.cell? ⟨w.heap.size + 1, 0, none⟩ = some (.int .i64 (rw m 0)) := (hE.cells _ _ (by first | exact l1 | (simp; done) | (simp; omega))).trans (by first | exact k1_0 | (go_simp; done)); replace k1_1 : w1.cell? ⟨w.heap.size + 1, 1, none⟩ = some (.int .i64 (rw m 1)) := (hE.cells _ _ (by first | exact l1 | (simp; done) | (simp; omega))).trans (by first | exact k1_1 | (go_simp; done)); replace k1_2 : w1.cell? ⟨w.heap.size + 1, 2, none⟩ = some (.int .i64 (rw m 2)) := (hE.cells _ _ (by first | exact l1 | (simp; done) | (simp; omega))).trans (by first | exact k1_2 | (go_simp; done)); replace k1_3 : w1.cell? ⟨w.heap.size + 1, 3, none⟩ = some (.int .i64 (rw m 3)) := (hE.cells _ _ (by first | exact l1 | (simp; done) | (simp; omega))).trans (by first | exact k1_3 | (go_simp; done)); replace k1_4 : w1.cell? ⟨w.heap.size + 1, 4, none⟩ = some (.int .i64 (rw m 4)) := (hE.cells _ _ (by first | exact l1 | (simp; done) | (simp; omega))).trans (by first | exact k1_4 | (go_simp; done)); replace k1_5 : w1.cell? ⟨w.heap.size + 1, 5, none⟩ = some (.int .i64 (rw m 5)) := (hE.cells _ _ (by first | exact l1 | (simp; done) | (simp; omega))).trans (by first | exact k1_5 | (go_simp; done)); replace l0 : w.heap.size < w1.heap.size := Nat.lt_of_lt_of_le (by first | exact l0 | (simp; done) | (simp; omega)) hE.size; replace l1 : w.heap.size + 1 < w1.heap.size := Nat.lt_of_lt_of_le (by first | exact l1 | (simp; done) | (simp; omega)) hE.size; have HV := Lib.hid ho; clear ho); obtain ⟨vo, vc, rfl, vsh⟩ := own_shape HV.out; obtain ⟨wa, rfl⟩ : ∃ x, x = w1 := ⟨_, rfl⟩))
  have hxa : Ext w wa := (by (repeat' (first | (with_reducible exact Ext.refl _) | (with_reducible assumption) | (with_reducible refine Ext.alloc ?_ _) | (with_reducible refine Ext.drew ?_) | (with_reducible refine Ext.drewN ?_ _) | (with_reducible refine Ext.setCell ?_ ?_ _) | (with_reducible refine Ext.trans ?_ (by assumption)))) <;> (first | (with_reducible assumption) | omega | (simp; done) | (simp; omega)))
  have hsz := hxa.size
  go_loopw [10, 34] (fun u i wr => ∃ j : Nat, j ≤ L.length ∧ i = .int .i64 j ∧ Ext wa wr ∧ wa.heap.size < wr.heap.size ∧ wr.ownsRow wa.heap.size 3 1 u (ndG (ndP n m L) L j).length (ints (ndG (ndP n m L) L j))) (fun _ i _ => L.length - (intOf i).toNat)
  case atStart => exact ⟨0, Nat.zero_le _, rfl, (by (repeat' (first | (with_reducible exact Ext.refl _) | (with_reducible assumption) | (with_reducible refine Ext.alloc ?_ _) | (with_reducible refine Ext.drew ?_) | (with_reducible refine Ext.drewN ?_ _) | (with_reducible refine Ext.setCell ?_ ?_ _) | (with_reducible refine Ext.trans ?_ (by assumption)))) <;> (first | (with_reducible assumption) | omega | (simp; done) | (simp; omega))), by simp, by rw [ndG_0]; exact own_empty _ 3 1 _ (Nat.le_refl _) rfl⟩
  case round =>
    obtain ⟨j, hj, rfl, hx, hz, ho⟩ := hrel
    obtain ⟨wo, rfl⟩ : ∃ wo : World, wo = wr := ⟨_, rfl⟩
    obtain ⟨uo, uc, rfl, _⟩ := own_shape ho
    have HU := Lib.hid ho
    have HV1 := Lib.hid (own_ext HV.out hx)
    clear ho
    rcases Nat.lt_or_ge j L.length with hlt | hge
    · obtain ⟨vb, rfl, hvl, hvb⟩ := vsh (by omega)
      have hvi : vb < wo.heap.size := Nat.lt_of_lt_of_le hvb hx.size
      have hcap := own_cap HV.out
      obtain ⟨k, hk⟩ : ∃ k, L[j]? = some k := ⟨L[j], List.getElem?_eq_getElem hlt⟩
      have p1 := (HV1.out.cellAt j (by omega)).trans (ints_get L j k hk)
      have hlT : (L.take j).length = j := by rw [List.length_take]; omega
      have hlD : (L.drop (j + 1)).length = L.length - (j + 1) := List.length_drop
      have HLL := Lib.hid (show (L.take j ++ L.drop (j + 1)).length ≤ 36 by rw [List.length_append, hlT, hlD]; omega)
      have HLG := Lib.hid (show ∀ (i q : Nat), (L.take j ++ L.drop (j + 1))[i]? = some q → q < 36 from fun i q h => by
        rcases List.mem_append.1 (List.mem_of_getElem? h) with h1 | h1
        · obtain ⟨e, he⟩ := List.mem_iff_getElem?.1 (List.mem_of_mem_take h1)
          exact HG.out e q he
        · obtain ⟨e, he⟩ := List.mem_iff_getElem?.1 (List.mem_of_mem_drop h1)
          exact HG.out e q he)
      have HCC := Lib.hid (fun (wc : World) (hx : Ext wo wc) (b : Nat) (hb : b < wc.heap.size) (h0 : wc.cell? ⟨b, 0, none⟩ = some (.slice (some ⟨vb, 0, none⟩) j vc)) (h1 : wc.cell? ⟨b, 1, none⟩ = some (.slice (if vc = j + 1 then some ⟨vb, 0, none⟩ else some ⟨vb, j + 1, none⟩) (L.length - (j + 1)) (vc - (j + 1)))) =>
        concat_two (L.take j) (L.drop (j + 1)) vb 0 vc vb (if vc = j + 1 then 0 else j + 1) (vc - (j + 1)) b 2 (by rw [hlT, hlD]; omega) wc hb (by rw [hlT]; exact h0) (by rw [hlD, h1]; split <;> rfl) (Nat.lt_of_lt_of_le hvi hx.size) (Nat.lt_of_lt_of_le hvi hx.size)
          (fun i u hu => by
            rw [Nat.zero_add]
            rw [ints_take, List.getElem?_take] at hu
            split at hu
            · exact ((own_ext HV1.out hx).cellAt i (by omega)).trans hu
            · cases hu)
          (fun i u hu => by
            have hi : i < L.length - (j + 1) := by
              have := (List.getElem?_eq_some_iff.1 hu).1
              rw [ints_length, hlD] at this
              exact this
            rw [if_neg (by omega)]
            rw [ints_drop, List.getElem?_drop] at hu
            exact ((own_ext HV1.out hx).cellAt (j + 1 + i) (by omega)).trans hu))
      have HIN := Lib.hid (fun B v w ho => inkedAt_n n hn (L.take j ++ L.drop (j + 1)) HLG.out (by have := HLL.out; omega) B v w ho)
      have HPT := Lib.hid (fun h => ndG_t (ndP n m L) L j k h hk)
      have HPF := Lib.hid (ndG_f (ndP n m L) L j)
      have HPD := Lib.hid (show ndP n m L j = decide (inkL n (L.take j ++ L.drop (j + 1)) ≠ m) from rfl)
      have HDL := Lib.hid (ndG_len (ndP n m L) L j)
      clear hk
      generalize L.take j ++ L.drop (j + 1) = M at *
      have hzl := inkL_lt n M
      skip
      go_wp2
      refine wp_perm [(0, true), (1, true), (2, true), (3, true), (4, true), (5, true), (6, true), (7, true), (11, true), (8, false), (9, false), (10, false), (12, true)] [] (by kernel_rfl) (by kernel_rfl) ?_; simp only [pickO, pickT, List.getElem?_cons_succ, List.getElem?_cons_zero]; intro hgr
      (refine walkP_step (fun K hK => ?_); go_simp; (try (go_ints; try go_simp)); first | (refine hK _ ?_; clear hK K) | (apply Exists.intro; refine ⟨fun _ => ?_, hK _ ?_⟩; (fail); clear hK K) | (simp only [↓IntWalk.iteOmega]; (try go_simp); (try (go_ints; try go_simp)); first | (refine hK _ ?_; clear hK K) | (apply Exists.intro; refine ⟨fun _ => ?_, hK _ ?_⟩; (fail); clear hK K))); (refine walkP_step (fun K hK => ?_); go_simp; (try (go_ints; try go_simp)); first | (refine hK _ ?_; clear hK K) | (apply Exists.intro; refine ⟨fun _ => ?_, hK _ ?_⟩; (fail); clear hK K) | (simp only [↓IntWalk.iteOmega]; (try go_simp); (try (go_ints; try go_simp)); first | (refine hK _ ?_; clear hK K) | (apply Exists.intro; refine ⟨fun _ => ?_, hK _ ?_⟩; (fail); clear hK K))); (refine walkP_step (fun K hK => ?_); go_simp; (try (go_ints; try go_simp)); first | (refine hK _ ?_; clear hK K) | (apply Exists.intro; refine ⟨fun _ => ?_, hK _ ?_⟩; (fail); clear hK K) | (simp only [↓IntWalk.iteOmega]; (try go_simp); (try (go_ints; try go_simp)); first | (refine hK _ ?_; clear hK K) | (apply Exists.intro; refine ⟨fun _ => ?_, hK _ ?_⟩; (fail); clear hK K))); (refine walkP_step (fun K hK => ?_); go_simp; (try (go_ints; try go_simp)); first | (refine hK _ ?_; clear hK K) | (apply Exists.intro; refine ⟨fun _ => ?_, hK _ ?_⟩; (fail); clear hK K) | (simp only [↓IntWalk.iteOmega]; (try go_simp); (try (go_ints; try go_simp)); first | (refine hK _ ?_; clear hK K) | (apply Exists.intro; refine ⟨fun _ => ?_, hK _ ?_⟩; (fail); clear hK K))); (refine walkP_step (fun K hK => ?_); go_simp; (try (go_ints; try go_simp)); first | (refine hK _ ?_; clear hK K) | (apply Exists.intro; refine ⟨fun _ => ?_, hK _ ?_⟩; (fail); clear hK K) | (simp only [↓IntWalk.iteOmega]; (try go_simp); (try (go_ints; try go_simp)); first | (refine hK _ ?_; clear hK K) | (apply Exists.intro; refine ⟨fun _ => ?_, hK _ ?_⟩; (fail); clear hK K))); (refine walkP_step (fun K hK => ?_); go_simp; (try (go_ints; try go_simp)); first | (refine hK _ ?_; clear hK K) | (apply Exists.intro; refine ⟨fun _ => ?_, hK _ ?_⟩; (fail); clear hK K) | (simp only [↓IntWalk.iteOmega]; (try go_simp); (try (go_ints; try go_simp)); first | (refine hK _ ?_; clear hK K) | (apply Exists.intro; refine ⟨fun _ => ?_, hK _ ?_⟩; (fail); clear hK K))); (refine walkP_step (fun K hK => ?_); go_simp; (try (go_ints; try go_simp)); first | (refine hK _ ?_; clear hK K) | (apply Exists.intro; refine ⟨fun _ => ?_, hK _ ?_⟩; (fail); clear hK K) | (simp only [↓IntWalk.iteOmega]; (try go_simp); (try (go_ints; try go_simp)); first | (refine hK _ ?_; clear hK K) | (apply Exists.intro; refine ⟨fun _ => ?_, hK _ ?_⟩; (fail); clear hK K))); (refine walkP_step (fun K hK => ?_); go_simp; (try (go_ints; try go_simp)); first | (refine hK _ ?_; clear hK K) | (apply Exists.intro; refine ⟨fun _ => ?_, hK _ ?_⟩; (fail); clear hK K) | (simp only [↓IntWalk.iteOmega]; (try go_simp); (try (go_ints; try go_simp)); first | (refine hK _ ?_; clear hK K) | (apply Exists.intro; refine ⟨fun _ => ?_, hK _ ?_⟩; (fail); clear hK K))); (refine walkP_step (fun K hK => ?_); go_simp; (try (go_ints; try go_simp)); first | (refine hK _ ?_; clear hK K) | (apply Exists.intro; refine ⟨fun _ => ?_, hK _ ?_⟩; (fail); clear hK K) | (simp only [↓IntWalk.iteOmega]; (try go_simp); (try (go_ints; try go_simp)); first | (refine hK _ ?_; clear hK K) | (apply Exists.intro; refine ⟨fun _ => ?_, hK _ ?_⟩; (fail); clear hK K)))
      refine walkP_callR (fun v => v) (Two (.slice (some ⟨vb, 0, none⟩) j vc) (.slice (if vc = j + 1 then some ⟨vb, 0, none⟩ else some ⟨vb, j + 1, none⟩) (L.length - (j + 1)) (vc - (j + 1)))) (two_stable _ _) rfl (fun wc hxc _ R hR => ?_) (fun v1 => ?_)
      · go_simp
        simp only [anyUpon]
        exact hR _ _ ((Ext.refl _).alloc _) ⟨_, rfl, by simp, World.cell?_alloc_at _ _ _ _ (by simp), World.cell?_alloc_at _ _ _ _ (by simp)⟩
      refine walkP_callR (fun v => v) (fun v w' => w'.ownsRow wa.heap.size 3 1 v M.length (ints M)) (fun _ _ _ hx h => own_ext h hx) rfl (fun wc hxc hF R hR => ?_) (fun v2 => ?_)
      · obtain ⟨_, b, rfl, hb, hb0, hb1⟩ := hF
        have hxo : Ext wo wc := ((Ext.refl wo).drew).trans hxc
        go_simp
        simp only [anyUpon]
        go_at_call 184
        refine (HCC.out wc hxo b hb hb0 hb1).mono ?_
        rintro e w1 ⟨u, rfl, hE, ho⟩
        exact ⟨_, rfl, hR _ _ hE (own_mono ho (by have := hx.size; have := hxo.size; omega))⟩
      refine walkP_callR (fun _ => .int .u64 (inkL n M : Nat)) (fun _ _ => True) (fun _ _ _ _ _ => trivial) rfl (fun wc hxc hF R hR => ?_) (fun _ => ?_)
      · go_simp
        simp only [anyUpon]
        go_at_call 183
        refine (HIN.out _ _ _ hF.2).mono ?_
        rintro e w1 ⟨rfl, hE⟩
        exact ⟨_, rfl, hR undef _ hE trivial⟩
      clear HIN HCC
      generalize inkL n M = z at *
      by_cases hzm : z = m
      · subst hzm
        have HPf := Lib.hid (HPF.out (by rw [HPD.out]; exact decide_eq_false (fun h => h rfl)))
        (refine walkP_step (fun K hK => ?_); go_simp; (try (go_ints; try go_simp)); first | (refine hK _ ?_; clear hK K) | (apply Exists.intro; refine ⟨fun _ => ?_, hK _ ?_⟩; (fail); clear hK K) | (simp only [↓IntWalk.iteOmega]; (try go_simp); (try (go_ints; try go_simp)); first | (refine hK _ ?_; clear hK K) | (apply Exists.intro; refine ⟨fun _ => ?_, hK _ ?_⟩; (fail); clear hK K)))
        refine walkP_nil ?_; clear hgr; intro w1 hE _
        replace hE : Ext wo w1 := ((Ext.refl wo).drew).trans hE
        go_wp2
        refine ⟨⟨j + 1, by omega, by go_num, hx.trans hE, by have := hE.size; omega, ?_⟩, by simp [intOf]; omega⟩
        rw [HPf.out]
        exact own_ext HU.out hE
      · have hbz : ((z : Int) != (m : Int)) = true := by rw [bne_iff_ne]; omega
        have HPt := Lib.hid (HPT.out (by rw [HPD.out]; exact decide_eq_true hzm))
        (refine walkP_step (fun K hK => ?_); go_simp; (try (go_ints; try go_simp)); first | (refine hK _ ?_; clear hK K) | (apply Exists.intro; refine ⟨fun _ => ?_, hK _ ?_⟩; (fail); clear hK K) | (simp only [↓IntWalk.iteOmega]; (try go_simp); (try (go_ints; try go_simp)); first | (refine hK _ ?_; clear hK K) | (apply Exists.intro; refine ⟨fun _ => ?_, hK _ ?_⟩; (fail); clear hK K)))
        refine walkP_nil ?_; clear hgr; intro w1 hE _
        replace hE : Ext wo w1 := ((Ext.refl wo).drew).trans hE
        have HU1 := Lib.hid (own_ext HU.out hE)
        have hx1 := hx.trans hE
        go_wp2_with (at_builtin; refine wpList_append_own _ rfl _ _ 44 rfl wa.heap.size 3 i0 (.int .i64 0) 1 8 Try.underlying44 hi iz0 iz1 iz2 rfl (by decide) _ _ _ rfl (HU1.out.alloc _) ⟨_, 0, none⟩ 1 1 [.int .i64 (k : Int)] rfl rfl one_cell (by simp [Value.oneCell']) (by unfold maxLen; have := HDL.out; omega) (by have := HDL.out; omega) (by have := hx1.size; simp; omega) ?_; intro v1 w2 hown hgrow _)
        have HPS := Lib.hid (own_push hx1 (Nat.le_refl _) HU1.out hgrow)
        have hs2 := hgrow.size
        have hs3 := hE.size
        refine ⟨⟨j + 1, by omega, by go_num, HPS.out.1, by simp at hs2; omega, ?_⟩, by simp [intOf]; omega⟩
        rw [HPt.out, List.length_append, ints_append]
        exact hown
    · obtain rfl : j = L.length := by omega
      go_wp2_with (go_at_call 174; refine (HCO.out _ _ _ HU.out).mono ?_; rintro e w1 ⟨u, rfl, hE, ho⟩)
      go_returns
      exact ⟨_, rfl, (by (repeat' (first | (with_reducible exact Ext.refl _) | (with_reducible assumption) | (with_reducible refine Ext.alloc ?_ _) | (with_reducible refine Ext.drew ?_) | (with_reducible refine Ext.drewN ?_ _) | (with_reducible refine Ext.setCell ?_ ?_ _) | (with_reducible refine Ext.trans ?_ (by assumption)))) <;> (first | (with_reducible assumption) | omega | (simp; done) | (simp; omega))), own_mono ho (by have := hx.size; omega)⟩
end Go.Proofs.Ytadnfocbfabjnaa
