/- Own InkM Ops FitM: contracts of functions, and lemmas, for this seat. Conditions: as each states. -/
import Derived.Test.YtlifhoajamnehaaCo03
import Derived.OwnWalk
import Derived.Laws.OwnMore
import Derived.Test.YtlifhoajamnehaaCo01
set_option linter.unusedVariables false
set_option linter.unusedSimpArgs false
set_option maxRecDepth 100000
set_option maxHeartbeats 1000000
namespace Go.Proofs.Ytlifhoajamnehaa
open Go Go.RowKit Instr
/-! slices that a call has made -/
/-- of the numbers below k those of which something is so -/
def fl (p : Nat → Bool) (k : Nat) : List Nat := (List.range k).filter p
theorem fl_hit {p : Nat → Bool} {k : Nat} (h : p k = true) : fl p (k + 1) = fl p k ++ [k] := by unfold fl; rw [List.range_succ, List.filter_append]; simp [h]
theorem fl_miss {p : Nat → Bool} {k : Nat} (h : p k = false) : fl p (k + 1) = fl p k := by unfold fl; rw [List.range_succ, List.filter_append]; simp [h]
theorem fl_le (p : Nat → Bool) (k : Nat) : (fl p k).length ≤ k := by
  have := List.length_filter_le p (List.range k)
  unfold fl; simpa using this
theorem own_ext {w w' : World} {B : Nat} {e : TypeId} {size : Nat} {v : Value} {n : Nat} {xs : List Value} (h : w.ownsRow B e size v n xs) (hx : Ext w w') : w'.ownsRow B e size v n xs :=
  h.kept (row := none) ⟨hx.below.os, hx.below.tape, hx.below.output, hx.size, fun k hk _ => hx.at hk⟩ (by cases hv : v.ownBlock <;> simp)
theorem own_mono {w : World} {B B' : Nat} {e : TypeId} {size : Nat} {v : Value} {n : Nat} {xs : List Value} (h : w.ownsRow B e size v n xs) (hB : B' ≤ B) : w.ownsRow B' e size v n xs := by
  obtain ⟨h1, h2⟩ := h
  refine ⟨h1, ?_⟩
  rcases h2 with h2 | ⟨g, cap, cur, hv, hg, r⟩
  · exact .inl h2
  · exact .inr ⟨g, cap, cur, hv, by omega, r⟩
theorem own_empty (w : World) (e : TypeId) (size : Nat) (B : Nat) (hB : B ≤ w.heap.size) {b : Nat} (hb : b = w.heap.size) : (w.alloc (.cells #[] e)).ownsRow B e size (.slice (some ⟨b, 0, none⟩) 0 0) 0 [] := by
  subst hb
  exact World.ownsRow_made w #[] 0 hB (by unfold maxLen; omega) (by simp)
/-- behind an append -/
theorem own_push {w wr w1 : World} {o : Obj} {B : Nat} {e : TypeId} {size : Nat} {v : Value} {n : Nat} {xs : List Value} (hx : Ext w wr) (hB : w.heap.size ≤ B) (hown : wr.ownsRow B e size v n xs) (hgrow : (wr.alloc o).grownBy w1 v.ownBlock) :
    Ext w w1 ∧ ∀ b g, b < B → b < wr.heap.size → Arr wr b g → Arr w1 b g := by
  have hlt := hown.lt
  refine ⟨.of ((hx.alloc o).below.grown hgrow (by have := hx.size; simp; omega) (fun k hk => by have := (hlt k hk).1; omega)), fun b g hb hs ha j hj => ?_⟩
  have hne : some b ≠ v.ownBlock := fun h => by have := (hlt b h.symm).1; omega
  have key := hgrow.block b (by simp; omega) hne
  have ha' := (ha.alloc o hs) j hj
  exact ⟨(World.cell?_of_block (w := wr.alloc o) (a := ⟨b, j, none⟩) key).trans ha'.1, (World.frozen?_of_block (w := wr.alloc o) (a := ⟨b, j, none⟩) key).trans ha'.2⟩
theorem one_cell {w : World} {v : Value} {e : TypeId} (j : Nat) (u : Value) (h : [v][j]? = some u) : (w.alloc (.cells #[v] e)).cell? ((⟨w.heap.size, 0, none⟩ : Addr).add j) = some u := by
  match j, h with
  | 0, h =>
    simp at h; subst h
    exact World.cell?_alloc_at (w := w) _ _ _ _ (by simp)
theorem two_cells {w : World} {v z : Value} {e : TypeId} (j : Nat) (u : Value) (h : [v, z][j]? = some u) : (w.alloc (.cells #[v, z] e)).cell? ((⟨w.heap.size, 0, none⟩ : Addr).add j) = some u := by
  match j, h with
  | 0, h =>
    simp at h; subst h
    exact World.cell?_alloc_at (w := w) _ _ _ _ (by simp)
  | 1, h =>
    simp at h; subst h
    exact World.cell?_alloc_at (w := w) _ _ _ _ (by simp)
/-! slices of numbers, and of pairs: compared, marked, held against the marks -/
theorem own_shape {w : World} {B : Nat} {e : TypeId} {size : Nat} {v : Value} {n : Nat} {xs : List Value} (h : w.ownsRow B e size v n xs) : ∃ ao cap, v = .slice ao n cap ∧ (0 < n → ∃ b, ao = some ⟨b, 0, none⟩ ∧ B ≤ b ∧ b < w.heap.size) := by
  rcases h.2 with ⟨hv, hn⟩ | ⟨g, cap, cur, hv, hb, hg, _⟩
  · exact ⟨none, 0, by rw [hv, hn], fun h => by omega⟩
  · exact ⟨some ⟨g, 0, none⟩, cap, hv, fun _ => ⟨g, rfl, hb, row_lt hg⟩⟩
theorem info_int : (Try.prog.info? 3).map (fun i => (i.zero, i.size, i.bytes)) = some (some (.int .i64 0), 1, 8) := by kernel_rfl
theorem info_two : (Try.prog.info? 33).map (fun i => (i.zero, i.size, i.bytes)) = some (some (.agg #[.int .i64 0, .int .i64 0]), 2, 16) := by kernel_rfl
end Go.Proofs.Ytlifhoajamnehaa
set_option linter.unusedVariables false
set_option linter.unusedSimpArgs false
set_option maxRecDepth 100000
set_option maxHeartbeats 1000000
namespace Go.Proofs.Ytlifhoajamnehaa
open Go Go.RowKit
/-- a stamp pressed at cells, one behind the other, by inking -/
def inkL (n : Nat) (L : List Nat) : Nat := L.foldl (fun o k => o ||| sh n (k % 6) (k / 6)) 0
theorem inkL_step (n : Nat) (L : List Nat) (i k : Nat) (h : L[i]? = some k) : inkL n (L.take (i + 1)) = inkL n (L.take i) ||| sh n (k % 6) (k / 6) := by
  unfold inkL
  rw [List.take_add_one, h, List.foldl_append]
  rfl
theorem inkL_all (n : Nat) (L : List Nat) : inkL n (L.take L.length) = inkL n L := by rw [List.take_length]
/-- numbers, and cells, in a row -/
def ints (L : List Nat) : List Value := L.map fun k : Nat => Value.int .i64 (k : Int)
def pxy (L : List Nat) : List Value := L.flatMap fun k : Nat => [Value.int .i64 ((k % 6 : Nat) : Int), Value.int .i64 ((k / 6 : Nat) : Int)]
theorem pxy_get : ∀ (L : List Nat) (i k : Nat), L[i]? = some k → (pxy L)[i * 2]? = some (.int .i64 ((k % 6 : Nat) : Int)) ∧ (pxy L)[i * 2 + 1]? = some (.int .i64 ((k / 6 : Nat) : Int))
  | [], i, k, h => by simp at h
  | a :: L, 0, k, h => by
    have : a = k := by simpa using h
    subst this
    exact ⟨rfl, rfl⟩
  | a :: L, i + 1, k, h => by
    have := pxy_get L i k (by simpa using h)
    have e : pxy (a :: L) = [Value.int .i64 ((a % 6 : Nat) : Int), Value.int .i64 ((a / 6 : Nat) : Int)] ++ pxy L := rfl
    rw [e, show (i + 1) * 2 = i * 2 + 2 by omega, show i * 2 + 2 + 1 = (i * 2 + 1) + 2 by omega]
    exact this
theorem pxy_append (L M : List Nat) : pxy (L ++ M) = pxy L ++ pxy M := List.flatMap_append
theorem ints_append (L M : List Nat) : ints (L ++ M) = ints L ++ ints M := List.map_append
theorem fl_lt {p : Nat → Bool} {m i k : Nat} (h : (fl p m)[i]? = some k) : k < m := by
  have := List.mem_of_getElem? h
  unfold fl at this
  exact List.mem_range.1 (List.mem_filter.1 this).1
theorem fl_congr {p q : Nat → Bool} {m : Nat} (h : ∀ k, k < m → p k = q k) : fl p m = fl q m := List.filter_congr fun k hk => h k (List.mem_range.1 hk)
theorem fl_mk (p : Nat → Bool) : fl (mkN p 36).testBit 36 = fl p 36 := fl_congr fun k hk => by rw [testBit_mkN, decide_eq_true hk, Bool.true_and]
end Go.Proofs.Ytlifhoajamnehaa
set_option linter.unusedVariables false
set_option linter.unusedSimpArgs false
set_option maxRecDepth 100000
set_option maxHeartbeats 1000000
namespace Go.Proofs.Ytlifhoajamnehaa
open Go Go.RowKit
theorem l2Or_n (a b : Nat) (w : World) : Calls Try.prog 137 #[(.agg #[.int .i64 (rw a 0), .int .i64 (rw a 1), .int .i64 (rw a 2), .int .i64 (rw a 3), .int .i64 (rw a 4), .int .i64 (rw a 5)]), (.agg #[.int .i64 (rw b 0), .int .i64 (rw b 1), .int .i64 (rw b 2), .int .i64 (rw b 3), .int .i64 (rw b 4), .int .i64 (rw b 5)])] w fun e w' => e = .returned (.agg #[.int .i64 (rw (a ||| b) 0), .int .i64 (rw (a ||| b) 1), .int .i64 (rw (a ||| b) 2), .int .i64 (rw (a ||| b) 3), .int .i64 (rw (a ||| b) 4), .int .i64 (rw (a ||| b) 5)]) ∧ Ext w w' := by
  go_enter Try.func137, Try.ntmps137
  go_wp2
  go_loopw [5] (fun i wr => ∃ k : Nat, k ≤ 6 ∧ i = .int .i64 k ∧ Ext w wr ∧ Arr wr w.heap.size (mixG (rw (a ||| b)) (rw a) k) ∧ Arr wr (w.heap.size + 1) (rw b) ∧ Arr wr (w.heap.size + 2) (fun _ => 0) ∧ w.heap.size + 2 < wr.heap.size) (fun i _ => 6 - (intOf i).toNat)
  case atStart =>
    refine ⟨0, Nat.zero_le _, rfl, (by (repeat' (first | (with_reducible exact Ext.refl _) | (with_reducible assumption) | (with_reducible refine Ext.alloc ?_ _) | (with_reducible refine Ext.drew ?_) | (with_reducible refine Ext.drewN ?_ _) | (with_reducible refine Ext.setCell ?_ ?_ _) | (with_reducible refine Ext.trans ?_ (by assumption)))) <;> (first | (with_reducible assumption) | omega | (simp; done) | (simp; omega))), ?_, ?_, ?_, by simp⟩
    · exact (((Arr.new w (rw a) _ rfl).alloc _ (by simp)).alloc _ (by simp; omega)).congr fun j _ => mixG_0 _ _ j
    · exact (Arr.new _ (rw b) _ (by simp)).alloc _ (by simp)
    · exact Arr.new _ (fun _ => 0) _ (by simp)
  case round =>
    obtain ⟨k, hk, rfl, hx, ha, hb, hr, hz⟩ := hrel
    obtain ⟨wo, rfl⟩ : ∃ wo : World, wo = wr := ⟨_, rfl⟩
    have HA := Lib.hid ha
    have HB := Lib.hid hb
    have HR := Lib.hid hr
    clear ha hb hr
    by_cases hlt : k < 6
    · obtain ⟨c1, f1⟩ := HA.out k hlt
      rw [mixG_at] at c1
      obtain ⟨c2, _⟩ := HB.out k hlt
      have b0 := rw_0 a k
      have b1 := rw_63 a k
      have HS := Lib.hid (or_row a b k)
      go_wp2
      refine wp_still 12 (by kernel_rfl) (by kernel_rfl) ?_; simp only [List.take_succ_cons, List.take_zero, List.drop_succ_cons, List.drop_zero]; (refine wpStill_step (fun K hK => ?_); go_simp; (try (go_ints; try go_simp)); first | (refine hK _ ?_; clear hK K) | (apply Exists.intro; refine ⟨?_, hK _ ?_⟩; (fail); clear hK K) | (simp only [↓IntWalk.iteOmega]; (try go_simp); (try (go_ints; try go_simp)); first | (refine hK _ ?_; clear hK K) | (apply Exists.intro; refine ⟨?_, hK _ ?_⟩; (fail); clear hK K))); (refine wpStill_step (fun K hK => ?_); go_simp; (try (go_ints; try go_simp)); first | (refine hK _ ?_; clear hK K) | (apply Exists.intro; refine ⟨?_, hK _ ?_⟩; (fail); clear hK K) | (simp only [↓IntWalk.iteOmega]; (try go_simp); (try (go_ints; try go_simp)); first | (refine hK _ ?_; clear hK K) | (apply Exists.intro; refine ⟨?_, hK _ ?_⟩; (fail); clear hK K))); (refine wpStill_step (fun K hK => ?_); go_simp; (try (go_ints; try go_simp)); first | (refine hK _ ?_; clear hK K) | (apply Exists.intro; refine ⟨?_, hK _ ?_⟩; (fail); clear hK K) | (simp only [↓IntWalk.iteOmega]; (try go_simp); (try (go_ints; try go_simp)); first | (refine hK _ ?_; clear hK K) | (apply Exists.intro; refine ⟨?_, hK _ ?_⟩; (fail); clear hK K))); (refine wpStill_step (fun K hK => ?_); go_simp; (try (go_ints; try go_simp)); first | (refine hK _ ?_; clear hK K) | (apply Exists.intro; refine ⟨?_, hK _ ?_⟩; (fail); clear hK K) | (simp only [↓IntWalk.iteOmega]; (try go_simp); (try (go_ints; try go_simp)); first | (refine hK _ ?_; clear hK K) | (apply Exists.intro; refine ⟨?_, hK _ ?_⟩; (fail); clear hK K))); (refine wpStill_step (fun K hK => ?_); go_simp; (try (go_ints; try go_simp)); first | (refine hK _ ?_; clear hK K) | (apply Exists.intro; refine ⟨?_, hK _ ?_⟩; (fail); clear hK K) | (simp only [↓IntWalk.iteOmega]; (try go_simp); (try (go_ints; try go_simp)); first | (refine hK _ ?_; clear hK K) | (apply Exists.intro; refine ⟨?_, hK _ ?_⟩; (fail); clear hK K))); (refine wpStill_step (fun K hK => ?_); go_simp; (try (go_ints; try go_simp)); first | (refine hK _ ?_; clear hK K) | (apply Exists.intro; refine ⟨?_, hK _ ?_⟩; (fail); clear hK K) | (simp only [↓IntWalk.iteOmega]; (try go_simp); (try (go_ints; try go_simp)); first | (refine hK _ ?_; clear hK K) | (apply Exists.intro; refine ⟨?_, hK _ ?_⟩; (fail); clear hK K))); (refine wpStill_step (fun K hK => ?_); go_simp; (try (go_ints; try go_simp)); first | (refine hK _ ?_; clear hK K) | (apply Exists.intro; refine ⟨?_, hK _ ?_⟩; (fail); clear hK K) | (simp only [↓IntWalk.iteOmega]; (try go_simp); (try (go_ints; try go_simp)); first | (refine hK _ ?_; clear hK K) | (apply Exists.intro; refine ⟨?_, hK _ ?_⟩; (fail); clear hK K))); (refine wpStill_step (fun K hK => ?_); go_simp; (try (go_ints; try go_simp)); first | (refine hK _ ?_; clear hK K) | (apply Exists.intro; refine ⟨?_, hK _ ?_⟩; (fail); clear hK K) | (simp only [↓IntWalk.iteOmega]; (try go_simp); (try (go_ints; try go_simp)); first | (refine hK _ ?_; clear hK K) | (apply Exists.intro; refine ⟨?_, hK _ ?_⟩; (fail); clear hK K))); (refine wpStill_step (fun K hK => ?_); go_simp; (try (go_ints; try go_simp)); first | (refine hK _ ?_; clear hK K) | (apply Exists.intro; refine ⟨?_, hK _ ?_⟩; (fail); clear hK K) | (simp only [↓IntWalk.iteOmega]; (try go_simp); (try (go_ints; try go_simp)); first | (refine hK _ ?_; clear hK K) | (apply Exists.intro; refine ⟨?_, hK _ ?_⟩; (fail); clear hK K))); (refine wpStill_step (fun K hK => ?_); go_simp; (try (go_ints; try go_simp)); first | (refine hK _ ?_; clear hK K) | (apply Exists.intro; refine ⟨?_, hK _ ?_⟩; (fail); clear hK K) | (simp only [↓IntWalk.iteOmega]; (try go_simp); (try (go_ints; try go_simp)); first | (refine hK _ ?_; clear hK K) | (apply Exists.intro; refine ⟨?_, hK _ ?_⟩; (fail); clear hK K))); (refine wpStill_step (fun K hK => ?_); go_simp; (try (go_ints; try go_simp)); first | (refine hK _ ?_; clear hK K) | (apply Exists.intro; refine ⟨?_, hK _ ?_⟩; (fail); clear hK K) | (simp only [↓IntWalk.iteOmega]; (try go_simp); (try (go_ints; try go_simp)); first | (refine hK _ ?_; clear hK K) | (apply Exists.intro; refine ⟨?_, hK _ ?_⟩; (fail); clear hK K))); (refine wpStill_step (fun K hK => ?_); go_simp; (try (go_ints; try go_simp)); first | (refine hK _ ?_; clear hK K) | (apply Exists.intro; refine ⟨?_, hK _ ?_⟩; (fail); clear hK K) | (simp only [↓IntWalk.iteOmega]; (try go_simp); (try (go_ints; try go_simp)); first | (refine hK _ ?_; clear hK K) | (apply Exists.intro; refine ⟨?_, hK _ ?_⟩; (fail); clear hK K))); refine wpStill_nil ?_
      go_wp2
      refine ⟨⟨k + 1, by omega, by go_num, (by (repeat' (first | (with_reducible exact Ext.refl _) | (with_reducible assumption) | (with_reducible refine Ext.alloc ?_ _) | (with_reducible refine Ext.drew ?_) | (with_reducible refine Ext.drewN ?_ _) | (with_reducible refine Ext.setCell ?_ ?_ _) | (with_reducible refine Ext.trans ?_ (by assumption)))) <;> (first | (with_reducible assumption) | omega | (simp; done) | (simp; omega))), ?_, ?_, ?_, by simp; omega⟩, by simp [intOf]; omega⟩
      · exact ((HA.out).set (p := k) hlt _).congr (fun j hj => mixG_step _ _ k j _ HS.out)
      · exact (HB.out).far (by simp; try omega) _
      · exact (HR.out).far (by simp; try omega) _
    · obtain rfl : k = 6 := by omega
      obtain ⟨⟨c0, c1, c2, c3, c4, c5⟩, _⟩ := (HA.out.congr (mixG_6 _ _)).all
      obtain ⟨⟨d0, d1, d2, d3, d4, d5⟩, f0, f1, f2, f3, f4, f5⟩ := HR.out.all
      go_wp2
      exact bodyPost_ret (ret_cell rfl rfl (load_sheet (HR.out.six (rw (a ||| b))))) rfl ⟨rfl, (by (repeat' (first | (with_reducible exact Ext.refl _) | (with_reducible assumption) | (with_reducible refine Ext.alloc ?_ _) | (with_reducible refine Ext.drew ?_) | (with_reducible refine Ext.drewN ?_ _) | (with_reducible refine Ext.setCell ?_ ?_ _) | (with_reducible refine Ext.trans ?_ (by assumption)))) <;> (first | (with_reducible assumption) | omega | (simp; done) | (simp; omega)))⟩
theorem l2And_n (a b : Nat) (w : World) : Calls Try.prog 109 #[(.agg #[.int .i64 (rw a 0), .int .i64 (rw a 1), .int .i64 (rw a 2), .int .i64 (rw a 3), .int .i64 (rw a 4), .int .i64 (rw a 5)]), (.agg #[.int .i64 (rw b 0), .int .i64 (rw b 1), .int .i64 (rw b 2), .int .i64 (rw b 3), .int .i64 (rw b 4), .int .i64 (rw b 5)])] w fun e w' => e = .returned (.agg #[.int .i64 (rw (a &&& b) 0), .int .i64 (rw (a &&& b) 1), .int .i64 (rw (a &&& b) 2), .int .i64 (rw (a &&& b) 3), .int .i64 (rw (a &&& b) 4), .int .i64 (rw (a &&& b) 5)]) ∧ Ext w w' := by
  go_enter Try.func109, Try.ntmps109
  go_wp2
  go_loopw [5] (fun i wr => ∃ k : Nat, k ≤ 6 ∧ i = .int .i64 k ∧ Ext w wr ∧ Arr wr w.heap.size (mixG (rw (a &&& b)) (rw a) k) ∧ Arr wr (w.heap.size + 1) (rw b) ∧ Arr wr (w.heap.size + 2) (fun _ => 0) ∧ w.heap.size + 2 < wr.heap.size) (fun i _ => 6 - (intOf i).toNat)
  case atStart =>
    refine ⟨0, Nat.zero_le _, rfl, (by (repeat' (first | (with_reducible exact Ext.refl _) | (with_reducible assumption) | (with_reducible refine Ext.alloc ?_ _) | (with_reducible refine Ext.drew ?_) | (with_reducible refine Ext.drewN ?_ _) | (with_reducible refine Ext.setCell ?_ ?_ _) | (with_reducible refine Ext.trans ?_ (by assumption)))) <;> (first | (with_reducible assumption) | omega | (simp; done) | (simp; omega))), ?_, ?_, ?_, by simp⟩
    · exact (((Arr.new w (rw a) _ rfl).alloc _ (by simp)).alloc _ (by simp; omega)).congr fun j _ => mixG_0 _ _ j
    · exact (Arr.new _ (rw b) _ (by simp)).alloc _ (by simp)
    · exact Arr.new _ (fun _ => 0) _ (by simp)
  case round =>
    obtain ⟨k, hk, rfl, hx, ha, hb, hr, hz⟩ := hrel
    obtain ⟨wo, rfl⟩ : ∃ wo : World, wo = wr := ⟨_, rfl⟩
    have HA := Lib.hid ha
    have HB := Lib.hid hb
    have HR := Lib.hid hr
    clear ha hb hr
    by_cases hlt : k < 6
    · obtain ⟨c1, f1⟩ := HA.out k hlt
      rw [mixG_at] at c1
      obtain ⟨c2, _⟩ := HB.out k hlt
      have b0 := rw_0 a k
      have b1 := rw_63 a k
      have HS := Lib.hid (and_row a b k)
      go_wp2
      refine wp_still 12 (by kernel_rfl) (by kernel_rfl) ?_; simp only [List.take_succ_cons, List.take_zero, List.drop_succ_cons, List.drop_zero]; (refine wpStill_step (fun K hK => ?_); go_simp; (try (go_ints; try go_simp)); first | (refine hK _ ?_; clear hK K) | (apply Exists.intro; refine ⟨?_, hK _ ?_⟩; (fail); clear hK K) | (simp only [↓IntWalk.iteOmega]; (try go_simp); (try (go_ints; try go_simp)); first | (refine hK _ ?_; clear hK K) | (apply Exists.intro; refine ⟨?_, hK _ ?_⟩; (fail); clear hK K))); (refine wpStill_step (fun K hK => ?_); go_simp; (try (go_ints; try go_simp)); first | (refine hK _ ?_; clear hK K) | (apply Exists.intro; refine ⟨?_, hK _ ?_⟩; (fail); clear hK K) | (simp only [↓IntWalk.iteOmega]; (try go_simp); (try (go_ints; try go_simp)); first | (refine hK _ ?_; clear hK K) | (apply Exists.intro; refine ⟨?_, hK _ ?_⟩; (fail); clear hK K))); (refine wpStill_step (fun K hK => ?_); go_simp; (try (go_ints; try go_simp)); first | (refine hK _ ?_; clear hK K) | (apply Exists.intro; refine ⟨?_, hK _ ?_⟩; (fail); clear hK K) | (simp only [↓IntWalk.iteOmega]; (try go_simp); (try (go_ints; try go_simp)); first | (refine hK _ ?_; clear hK K) | (apply Exists.intro; refine ⟨?_, hK _ ?_⟩; (fail); clear hK K))); (refine wpStill_step (fun K hK => ?_); go_simp; (try (go_ints; try go_simp)); first | (refine hK _ ?_; clear hK K) | (apply Exists.intro; refine ⟨?_, hK _ ?_⟩; (fail); clear hK K) | (simp only [↓IntWalk.iteOmega]; (try go_simp); (try (go_ints; try go_simp)); first | (refine hK _ ?_; clear hK K) | (apply Exists.intro; refine ⟨?_, hK _ ?_⟩; (fail); clear hK K))); (refine wpStill_step (fun K hK => ?_); go_simp; (try (go_ints; try go_simp)); first | (refine hK _ ?_; clear hK K) | (apply Exists.intro; refine ⟨?_, hK _ ?_⟩; (fail); clear hK K) | (simp only [↓IntWalk.iteOmega]; (try go_simp); (try (go_ints; try go_simp)); first | (refine hK _ ?_; clear hK K) | (apply Exists.intro; refine ⟨?_, hK _ ?_⟩; (fail); clear hK K))); (refine wpStill_step (fun K hK => ?_); go_simp; (try (go_ints; try go_simp)); first | (refine hK _ ?_; clear hK K) | (apply Exists.intro; refine ⟨?_, hK _ ?_⟩; (fail); clear hK K) | (simp only [↓IntWalk.iteOmega]; (try go_simp); (try (go_ints; try go_simp)); first | (refine hK _ ?_; clear hK K) | (apply Exists.intro; refine ⟨?_, hK _ ?_⟩; (fail); clear hK K))); (refine wpStill_step (fun K hK => ?_); go_simp; (try (go_ints; try go_simp)); first | (refine hK _ ?_; clear hK K) | (apply Exists.intro; refine ⟨?_, hK _ ?_⟩; (fail); clear hK K) | (simp only [↓IntWalk.iteOmega]; (try go_simp); (try (go_ints; try go_simp)); first | (refine hK _ ?_; clear hK K) | (apply Exists.intro; refine ⟨?_, hK _ ?_⟩; (fail); clear hK K))); (refine wpStill_step (fun K hK => ?_); go_simp; (try (go_ints; try go_simp)); first | (refine hK _ ?_; clear hK K) | (apply Exists.intro; refine ⟨?_, hK _ ?_⟩; (fail); clear hK K) | (simp only [↓IntWalk.iteOmega]; (try go_simp); (try (go_ints; try go_simp)); first | (refine hK _ ?_; clear hK K) | (apply Exists.intro; refine ⟨?_, hK _ ?_⟩; (fail); clear hK K))); (refine wpStill_step (fun K hK => ?_); go_simp; (try (go_ints; try go_simp)); first | (refine hK _ ?_; clear hK K) | (apply Exists.intro; refine ⟨?_, hK _ ?_⟩; (fail); clear hK K) | (simp only [↓IntWalk.iteOmega]; (try go_simp); (try (go_ints; try go_simp)); first | (refine hK _ ?_; clear hK K) | (apply Exists.intro; refine ⟨?_, hK _ ?_⟩; (fail); clear hK K))); (refine wpStill_step (fun K hK => ?_); go_simp; (try (go_ints; try go_simp)); first | (refine hK _ ?_; clear hK K) | (apply Exists.intro; refine ⟨?_, hK _ ?_⟩; (fail); clear hK K) | (simp only [↓IntWalk.iteOmega]; (try go_simp); (try (go_ints; try go_simp)); first | (refine hK _ ?_; clear hK K) | (apply Exists.intro; refine ⟨?_, hK _ ?_⟩; (fail); clear hK K))); (refine wpStill_step (fun K hK => ?_); go_simp; (try (go_ints; try go_simp)); first | (refine hK _ ?_; clear hK K) | (apply Exists.intro; refine ⟨?_, hK _ ?_⟩; (fail); clear hK K) | (simp only [↓IntWalk.iteOmega]; (try go_simp); (try (go_ints; try go_simp)); first | (refine hK _ ?_; clear hK K) | (apply Exists.intro; refine ⟨?_, hK _ ?_⟩; (fail); clear hK K))); (refine wpStill_step (fun K hK => ?_); go_simp; (try (go_ints; try go_simp)); first | (refine hK _ ?_; clear hK K) | (apply Exists.intro; refine ⟨?_, hK _ ?_⟩; (fail); clear hK K) | (simp only [↓IntWalk.iteOmega]; (try go_simp); (try (go_ints; try go_simp)); first | (refine hK _ ?_; clear hK K) | (apply Exists.intro; refine ⟨?_, hK _ ?_⟩; (fail); clear hK K))); refine wpStill_nil ?_
      go_wp2
      refine ⟨⟨k + 1, by omega, by go_num, (by (repeat' (first | (with_reducible exact Ext.refl _) | (with_reducible assumption) | (with_reducible refine Ext.alloc ?_ _) | (with_reducible refine Ext.drew ?_) | (with_reducible refine Ext.drewN ?_ _) | (with_reducible refine Ext.setCell ?_ ?_ _) | (with_reducible refine Ext.trans ?_ (by assumption)))) <;> (first | (with_reducible assumption) | omega | (simp; done) | (simp; omega))), ?_, ?_, ?_, by simp; omega⟩, by simp [intOf]; omega⟩
      · exact ((HA.out).set (p := k) hlt _).congr (fun j hj => mixG_step _ _ k j _ HS.out)
      · exact (HB.out).far (by simp; try omega) _
      · exact (HR.out).far (by simp; try omega) _
    · obtain rfl : k = 6 := by omega
      obtain ⟨⟨c0, c1, c2, c3, c4, c5⟩, _⟩ := (HA.out.congr (mixG_6 _ _)).all
      obtain ⟨⟨d0, d1, d2, d3, d4, d5⟩, f0, f1, f2, f3, f4, f5⟩ := HR.out.all
      go_wp2
      exact bodyPost_ret (ret_cell rfl rfl (load_sheet (HR.out.six (rw (a &&& b))))) rfl ⟨rfl, (by (repeat' (first | (with_reducible exact Ext.refl _) | (with_reducible assumption) | (with_reducible refine Ext.alloc ?_ _) | (with_reducible refine Ext.drew ?_) | (with_reducible refine Ext.drewN ?_ _) | (with_reducible refine Ext.setCell ?_ ?_ _) | (with_reducible refine Ext.trans ?_ (by assumption)))) <;> (first | (with_reducible assumption) | omega | (simp; done) | (simp; omega)))⟩
theorem l2At_n (n x y : Nat) (hx : x < 6) (hy : y < 6) (w : World) : Calls Try.prog 154 #[(.agg #[.int .i64 (rw n 0), .int .i64 (rw n 1), .int .i64 (rw n 2), .int .i64 (rw n 3), .int .i64 (rw n 4), .int .i64 (rw n 5)]), (.agg #[.int .i64 ((x : Int)), .int .i64 ((y : Int))])] w fun e w' => e = .returned (.agg #[.int .i64 (rw (sh n x y) 0), .int .i64 (rw (sh n x y) 1), .int .i64 (rw (sh n x y) 2), .int .i64 (rw (sh n x y) 3), .int .i64 (rw (sh n x y) 4), .int .i64 (rw (sh n x y) 5)]) ∧ Ext w w' := by
  have E := Lib.hid (show m6 (x : Int) = x by unfold m6; omega)
  have G := Lib.hid (show m6 (y : Int) = y by unfold m6; omega)
  have HC := Lib.hid (fun w => l2Shift_n n x y w)
  rw [E.out, G.out] at HC
  skip
  go_enter Try.func154, Try.ntmps154
  go_wp2_with (go_at_call 81; refine (HC.out _).mono ?_; rintro e w1 ⟨rfl, hE⟩; replace HR := Lib.hid ((show Arr _ (w.heap.size + 2) (fun _ => 0) by first | exact HR.out | exact Arr.new _ (fun _ => 0) _ (by first | rfl | (simp; done) | (simp; omega))).ext hE (by first | exact lR | (simp; done) | (simp; omega))); replace lR : w.heap.size + 2 < w1.heap.size := Nat.lt_of_lt_of_le (by first | exact lR | (simp; done) | (simp; omega)) hE.size; (try clear d0 d1 d2 d3 d4 d5 f0 f1 f2 f3 f4 f5); obtain ⟨⟨d0, d1, d2, d3, d4, d5⟩, f0, f1, f2, f3, f4, f5⟩ := HR.out.all; replace k0_0 : w1.cell? ⟨w.heap.size, 0, none⟩ = some (.int .i64 (rw n 0)) := (hE.cells _ _ (by first | exact l0 | (simp; done) | (simp; omega))).trans (by first | exact k0_0 | (go_simp; done)); replace k0_1 : w1.cell? ⟨w.heap.size, 1, none⟩ = some (.int .i64 (rw n 1)) := (hE.cells _ _ (by first | exact l0 | (simp; done) | (simp; omega))).trans (by first | exact k0_1 | (go_simp; done)); replace k0_2 : w1.cell? ⟨w.heap.size, 2, none⟩ = some (.int .i64 (rw n 2)) := (hE.cells _ _ (by first | exact l0 | (simp; done) | (simp; omega))).trans (by first | exact k0_2 | (go_simp; done)); replace k0_3 : w1.cell? ⟨w.heap.size, 3, none⟩ = some (.int .i64 (rw n 3)) := (hE.cells _ _ (by first | exact l0 | (simp; done) | (simp; omega))).trans (by first | exact k0_3 | (go_simp; done)); replace k0_4 : w1.cell? ⟨w.heap.size, 4, none⟩ = some (.int .i64 (rw n 4)) := (hE.cells _ _ (by first | exact l0 | (simp; done) | (simp; omega))).trans (by first | exact k0_4 | (go_simp; done)); replace k0_5 : w1.cell? ⟨w.heap.size, 5, none⟩ = some (.int .i64 (rw n 5)) := (hE.cells _ _ (by first | exact l0 | (simp; done) | (simp; omega))).trans (by first | exact k0_5 | (go_simp; done)); replace k1_0 : w1.cell? ⟨w.heap.size + 1, 0, none⟩ = some (.int .i64 (x)) := (hE.cells _ _ (by first | exact l1 | (simp; done) | (simp; omega))).trans (by first | exact k1_0 | (go_simp; done)); replace k1_1 : w1.cell? ⟨w.heap.size + 1, 1, none⟩ = some (.int .i64 (y)) := (hE.cells _ _ (by first | exact l1 | (simp; done) | (simp; omega))).trans (by first | exact k1_1 | (go_simp; done)); replace l0 : w.heap.size < w1.heap.size := Nat.lt_of_lt_of_le (by first | exact l0 | (simp; done) | (simp; omega)) hE.size; replace l1 : w.heap.size + 1 < w1.heap.size := Nat.lt_of_lt_of_le (by first | exact l1 | (simp; done) | (simp; omega)) hE.size)
  exact bodyPost_ret (ret_cell rfl rfl (load_sheet (HR.out.six (rw (sh n x y))))) rfl ⟨rfl, (by (repeat' (first | (with_reducible exact Ext.refl _) | (with_reducible assumption) | (with_reducible refine Ext.alloc ?_ _) | (with_reducible refine Ext.drew ?_) | (with_reducible refine Ext.drewN ?_ _) | (with_reducible refine Ext.setCell ?_ ?_ _) | (with_reducible refine Ext.trans ?_ (by assumption)))) <;> (first | (with_reducible assumption) | omega | (simp; done) | (simp; omega)))⟩
theorem pressed_any (n k : Nat) (hn : n < 68719476736) (hk : k < 36) (w : World) : Calls Try.prog 97 #[.int .u64 (n : Int), .int .i64 (k : Int)] w fun e w' => e = .returned (.int .u64 (sh n (k % 6) (k / 6) : Nat)) ∧ Ext w w' := by
  have HC := Lib.hid (show ∀ w, Calls Try.prog 87 #[.int .u64 (n : Int), .int .i64 ((k : Int) % 6), .int .i64 ((k : Int) / 6)] w fun e w' => e = .returned (.int .u64 (sh n (k % 6) (k / 6) : Nat)) ∧ Ext w w' from fun w => by
    have := shifted_any n hn ((k : Int) % 6) ((k : Int) / 6) w
    rw [show m6 ((k : Int) % 6) = k % 6 by unfold m6; omega, show m6 ((k : Int) / 6) = k / 6 by unfold m6; omega] at this
    exact this)
  go_enter Try.func97, Try.ntmps97
  go_wp2_with (go_at_call 87; refine (HC.out _).mono ?_; rintro e w1 ⟨rfl, hE⟩)
  go_returns
  exact ⟨rfl, (by (repeat' (first | (with_reducible exact Ext.refl _) | (with_reducible assumption) | (with_reducible refine Ext.alloc ?_ _) | (with_reducible refine Ext.drew ?_) | (with_reducible refine Ext.drewN ?_ _) | (with_reducible refine Ext.setCell ?_ ?_ _) | (with_reducible refine Ext.trans ?_ (by assumption)))) <;> (first | (with_reducible assumption) | omega | (simp; done) | (simp; omega)))⟩
end Go.Proofs.Ytlifhoajamnehaa
set_option linter.unusedVariables false
set_option linter.unusedSimpArgs false
set_option maxRecDepth 100000
set_option maxHeartbeats 1000000
namespace Go.Proofs.Ytlifhoajamnehaa
open Go Go.RowKit
theorem src_perm : ∀ x, x < 6 → ∀ y, y < 6 → ((List.range 36).map (src x y)).isPerm (List.range 36) = true := by decide +kernel
theorem cnt_sh (m x y : Nat) (hx : x < 6) (hy : y < 6) : cnt (sh m x y) = cnt m := by
  have hp := List.isPerm_iff.1 (src_perm x hx y hy)
  have h1 : cnt (sh m x y) = ((List.range 36).filter (fun j => m.testBit (src x y j))).length := by
    unfold cnt
    rw [← lst_length]
    unfold lst
    refine congrArg List.length (List.filter_congr fun j hj => ?_)
    exact testBit_sh _ _ _ _ (List.mem_range.1 hj)
  have h2 : cnt m = ((List.range 36).filter m.testBit).length := by
    unfold cnt
    rw [← lst_length]
    rfl
  rw [h1, h2, ← (hp.filter m.testBit).length_eq, List.filter_map, List.length_map]
  rfl
theorem cnt_part {a z : Nat} (h : ∀ k, k < 36 → a.testBit k = true → z.testBit k = true) : ∀ m, m ≤ 36 → cntN a m ≤ cntN z m ∧ (cntN a m = cntN z m → ∀ k, k < m → a.testBit k = z.testBit k)
  | 0, _ => ⟨Nat.le_refl _, fun _ k hk => absurd hk (Nat.not_lt_zero k)⟩
  | m + 1, hm => by
    obtain ⟨h1, h2⟩ := cnt_part h m (by omega)
    have h3 := h m (by omega)
    rw [cntN, cntN]
    cases ha : a.testBit m
    · cases hz : z.testBit m
      · refine ⟨by simpa using h1, fun he k hk => ?_⟩
        rcases Nat.lt_or_ge k m with h4 | h4
        · exact h2 (by simpa using he) k h4
        · obtain rfl : k = m := by omega
          rw [ha, hz]
      · exact ⟨by simp; omega, fun he => by simp at he; omega⟩
    · have hz := h3 ha
      rw [hz]
      refine ⟨by simp; omega, fun he k hk => ?_⟩
      rcases Nat.lt_or_ge k m with h4 | h4
      · exact h2 (by simp at he; exact he) k h4
      · obtain rfl : k = m := by omega
        rw [ha, hz]
/-- as many cells in common as the stamp has: it is part of the sheet -/
theorem fits_iff (n z : Nat) (hz : z < 68719476736) : cnt (n &&& z) = cnt z ↔ z &&& cmp n = 0 := by
  constructor
  · intro h
    have key := (cnt_part (a := n &&& z) (z := z) (fun k hk hb => by rw [Nat.testBit_and] at hb; exact (Bool.and_eq_true_iff.1 hb).2) 36 (Nat.le_refl _)).2 h
    refine ext36 (and36 _ hz) (by omega) fun k hk => ?_
    have := key k hk
    rw [Nat.testBit_and] at this
    rw [Nat.testBit_and, testBit_cmp n k hk, Nat.zero_testBit]
    cases h1 : n.testBit k <;> cases h2 : z.testBit k <;> rw [h1, h2] at this <;> first | rfl | cases this
  · intro h
    refine congrArg cnt (ext36 (Nat.lt_of_le_of_lt Nat.and_le_right hz) hz fun k hk => ?_)
    have := congrArg (fun t => t.testBit k) h
    simp only [Nat.testBit_and, testBit_cmp n k hk, Nat.zero_testBit] at this
    rw [Nat.testBit_and]
    cases h1 : n.testBit k <;> cases h2 : z.testBit k <;> rw [h1, h2] at this <;> first | rfl | cases this
/-- of the numbers below k, how many have c as their value, where a set tells them -/
theorem cnt_mk (p : Nat → Bool) : ∀ k, k ≤ 36 → cntN (mkN p 36) k = ((List.range k).filter p).length
  | 0, _ => rfl
  | k + 1, hk => by
    rw [cntN, cnt_mk p k (by omega), testBit_mkN, decide_eq_true (show k < 36 by omega), Bool.true_and, List.range_succ, List.filter_append]
    cases h : p k <;> simp [h]
end Go.Proofs.Ytlifhoajamnehaa
