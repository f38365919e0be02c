/- Lists: contracts of functions, and lemmas, for this seat. Conditions: as each states. -/
import Derived.Test.YtlifhoajamnehaaInkM
import Derived.Test.YtlifhoajamnehaaOps
import Derived.Test.YtlifhoajamnehaaEql
import Derived.Test.YtlifhoajamnehaaFitM
import Derived.Test.YtlifhoajamnehaaLaw
import Derived.Test.YtlifhoajamnehaaSl
set_option linter.unusedVariables false
set_option maxRecDepth 100000
set_option maxHeartbeats 1000000
namespace Go.Proofs.Ytlifhoajamnehaa
open Go Go.RowKit Instr
theorem list_n (n : Nat) (hn : n < 68719476736) (w : World) : Calls Try.prog 150 #[.int .u64 (n : Int)] w fun e w' => ∃ v, e = .returned v ∧ Ext w w' ∧ w'.ownsRow w.heap.size 3 1 v (fl n.testBit 36).length (ints (fl n.testBit 36)) := by
  obtain ⟨i0, hi, iz0, iz1, iz2⟩ := info_parts info_int
  skip
  go_enter Try.func150, Try.ntmps150
  go_wp2
  go_loopw [3, 6] (fun v i wr => ∃ k : Nat, k ≤ 36 ∧ i = .int .i64 k ∧ Ext w wr ∧ w.heap.size < wr.heap.size ∧ wr.ownsRow w.heap.size 3 1 v (fl n.testBit k).length (ints (fl n.testBit k))) (fun _ i _ => 36 - (intOf i).toNat)
  case atStart => exact ⟨0, Nat.zero_le _, rfl, (by (repeat' (first | (with_reducible exact Ext.refl _) | (with_reducible assumption) | (with_reducible refine Ext.alloc ?_ _) | (with_reducible refine Ext.drew ?_) | (with_reducible refine Ext.drewN ?_ _) | (with_reducible refine Ext.setCell ?_ ?_ _) | (with_reducible refine Ext.trans ?_ (by assumption)))) <;> (first | (with_reducible assumption) | omega | (simp; done) | (simp; omega))), by simp, own_empty _ 3 1 _ (by simp) (by simp)⟩
  case round =>
    obtain ⟨k, hk, rfl, hx, hz, ho⟩ := hrel
    obtain ⟨wo, rfl⟩ : ∃ wo : World, wo = wr := ⟨_, rfl⟩
    have HO := Lib.hid ho
    clear ho
    by_cases hlt : k < 36
    · have hle := fl_le n.testBit k
      have HH := Lib.hid (fun w => has_any n k hn hlt w)
      cases hp : n.testBit k
      · rw [hp] at HH
        have e := fl_miss hp
        rw [← e] at HO
        clear hp e
        go_wp2_with (go_at_call 157; refine (HH.out _).mono ?_; rintro e w' ⟨rfl, rfl⟩)
        refine ⟨⟨k + 1, by omega, by go_num, hx, hz, HO.out⟩, by simp [intOf]; omega⟩
      · rw [hp] at HH
        have e := Lib.hid (fl_hit hp)
        clear hp
        go_wp2_with (first | (go_at_call 157; refine (HH.out _).mono ?_; rintro e w' ⟨rfl, rfl⟩) | (at_builtin; refine wpList_append_own _ rfl _ _ 44 rfl w.heap.size 3 i0 (.int .i64 0) 1 8 Try.underlying44 hi iz0 iz1 iz2 rfl (by decide) _ _ _ rfl (HO.out.alloc _) ⟨_, 0, none⟩ 1 1 [.int .i64 (k : Int)] rfl rfl one_cell (by simp [Value.oneCell']) (by unfold maxLen; omega) (by omega) (by simp; omega) ?_; intro v1 w2 hown hgrow _))
        have HP := Lib.hid (own_push hx (Nat.le_refl _) HO.out hgrow)
        have hs2 := hgrow.size
        refine ⟨⟨k + 1, by omega, by go_num, HP.out.1, by simp at hs2; omega, ?_⟩, by simp [intOf]; omega⟩
        rw [e.out, List.length_append, ints_append]
        exact hown
    · obtain rfl : k = 36 := by omega
      go_wp2
      go_returns
      exact ⟨_, rfl, (by (repeat' (first | (with_reducible exact Ext.refl _) | (with_reducible assumption) | (with_reducible refine Ext.alloc ?_ _) | (with_reducible refine Ext.drew ?_) | (with_reducible refine Ext.drewN ?_ _) | (with_reducible refine Ext.setCell ?_ ?_ _) | (with_reducible refine Ext.trans ?_ (by assumption)))) <;> (first | (with_reducible assumption) | omega | (simp; done) | (simp; omega))), HO.out⟩
/-- a set, spread by a stamp -/
def spr (n m : Nat) : Nat := inkL n (fl m.testBit 36)
theorem pxy_take : ∀ (L : List Nat) (j : Nat), pxy (L.take j) = (pxy L).take (j * 2)
  | [], j => by rw [List.take_nil]; show pxy [] = List.take _ []; rw [List.take_nil]; rfl
  | k :: L, 0 => by simp [pxy]
  | k :: L, j + 1 => by
    rw [List.take_succ_cons]
    have h := pxy_take L j
    show _ :: _ :: pxy (L.take j) = List.take ((j + 1) * 2) (_ :: _ :: pxy L)
    rw [h, show (j + 1) * 2 = j * 2 + 1 + 1 by omega, List.take_succ_cons, List.take_succ_cons]
theorem pxy_drop : ∀ (L : List Nat) (j : Nat), pxy (L.drop j) = (pxy L).drop (j * 2)
  | [], j => by rw [List.drop_nil]; show pxy [] = List.drop _ []; rw [List.drop_nil]; rfl
  | k :: L, 0 => by simp
  | k :: L, j + 1 => by
    rw [List.drop_succ_cons]
    have h := pxy_drop L j
    show pxy (L.drop j) = List.drop ((j + 1) * 2) (_ :: _ :: pxy L)
    rw [h, show (j + 1) * 2 = j * 2 + 1 + 1 by omega, List.drop_succ_cons, List.drop_succ_cons]
theorem pxy_ones (L : List Nat) : ∀ u ∈ pxy L, u.oneCell' = true := by
  intro u hu
  unfold pxy at hu
  obtain ⟨k, _, hk⟩ := List.mem_flatMap.1 hu
  simp at hk
  rcases hk with rfl | rfl <;> rfl
theorem cellOf_any (k : Nat) (hk : k < 36) (w : World) : Calls Try.prog 108 #[.int .i64 (k : Int)] w fun e w' => e = .returned (.agg #[.int .i64 (((k % 6 : Nat) : Int)), .int .i64 (((k / 6 : Nat) : Int))]) ∧ Ext w w' := by
  go_enter Try.func108, Try.ntmps108
  go_wp2
  exact bodyPost_ret (ret_cell rfl rfl (load_two (Arr2.new w (fun j => if j = 1 then ((k / 6 : Nat) : Int) else ((k % 6 : Nat) : Int)) 33 rfl))) rfl ⟨rfl, (by (repeat' (first | (with_reducible exact Ext.refl _) | (with_reducible assumption) | (with_reducible refine Ext.alloc ?_ _) | (with_reducible refine Ext.drew ?_) | (with_reducible refine Ext.drewN ?_ _) | (with_reducible refine Ext.setCell ?_ ?_ _) | (with_reducible refine Ext.trans ?_ (by assumption)))) <;> (first | (with_reducible assumption) | omega | (simp; done) | (simp; omega)))⟩
theorem cellsOf_n (L : List Nat) (hG : ∀ (i k : Nat), L[i]? = some k → k < 36) (hlen : L.length < 2000000) (B : Nat) (v : Value) (w : World) (ho : w.ownsRow B 3 1 v L.length (ints L)) :
    Calls Try.prog 129 #[v] w fun e w' => ∃ u, e = .returned u ∧ Ext w w' ∧ w'.ownsRow w.heap.size 33 2 u L.length (pxy L) := by
  obtain ⟨i0, hi, iz0, iz1, iz2⟩ := info_parts info_two
  obtain ⟨ao, cap, rfl, hsh⟩ := own_shape ho
  have HI := Lib.hid ho
  have HG := Lib.hid hG
  clear ho hG
  go_enter Try.func129, Try.ntmps129
  go_wp2
  go_loopw [3, 9] (fun u i wr => ∃ j : Nat, j ≤ L.length ∧ i = .int .i64 j ∧ Ext w wr ∧ w.heap.size < wr.heap.size ∧ wr.ownsRow w.heap.size 33 2 u j (pxy (L.take j))) (fun _ i _ => L.length - (intOf i).toNat)
  case atStart => exact ⟨0, Nat.zero_le _, rfl, (by (repeat' (first | (with_reducible exact Ext.refl _) | (with_reducible assumption) | (with_reducible refine Ext.alloc ?_ _) | (with_reducible refine Ext.drew ?_) | (with_reducible refine Ext.drewN ?_ _) | (with_reducible refine Ext.setCell ?_ ?_ _) | (with_reducible refine Ext.trans ?_ (by assumption)))) <;> (first | (with_reducible assumption) | omega | (simp; done) | (simp; omega))), by simp, own_empty _ 33 2 _ (by simp) (by simp)⟩
  case round =>
    obtain ⟨j, hj, rfl, hx, hz, ho⟩ := hrel
    obtain ⟨wo, rfl⟩ : ∃ wo : World, wo = wr := ⟨_, rfl⟩
    have HO := Lib.hid ho
    clear ho
    by_cases hlt : j < L.length
    · obtain ⟨b, rfl, _, hb⟩ := hsh (by omega)
      obtain ⟨k, hk⟩ : ∃ k, L[j]? = some k := ⟨L[j], List.getElem?_eq_getElem hlt⟩
      have hk36 := HG.out j k hk
      have c1 := ((own_ext HI.out hx).cellAt j (by omega)).trans (ints_get L j k hk)
      have HC := Lib.hid (fun w => cellOf_any k hk36 w)
      have HS := Lib.hid (show pxy (L.take (j + 1)) = pxy (L.take j) ++ [.int .i64 ((k % 6 : Nat) : Int), .int .i64 ((k / 6 : Nat) : Int)] by rw [List.take_add_one, hk, pxy_append]; rfl)
      clear hk
      go_wp2_with (first | ((go_at_call 108; refine (HC.out _).mono ?_; rintro e w1 ⟨rfl, hE⟩); have HO1 := Lib.hid (own_ext HO.out hE); have hs := hE.size) | (at_builtin; refine wpList_append_own _ rfl _ _ 28 rfl w.heap.size 33 i0 (.agg #[.int .i64 0, .int .i64 0]) 2 16 Try.underlying28 hi iz0 iz1 iz2 rfl (by decide) _ _ _ rfl (HO1.out.alloc _) ⟨_, 0, none⟩ 1 1 [.int .i64 ((k % 6 : Nat) : Int), .int .i64 ((k / 6 : Nat) : Int)] rfl rfl two_cells (by simp [Value.oneCell']) (by unfold maxLen; omega) (by omega) (by simp; omega) ?_; intro v1 w2 hown hgrow _))
      have HP := Lib.hid (own_push (hx.trans hE) (Nat.le_refl _) HO1.out hgrow)
      have hs2 := hgrow.size
      refine ⟨⟨j + 1, by omega, by go_num, HP.out.1, by simp at hs2; omega, ?_⟩, by simp [intOf]; omega⟩
      rw [HS.out]
      exact hown
    · obtain rfl : j = L.length := by omega
      rw [List.take_length] at HO
      go_wp2
      go_returns
      exact ⟨_, rfl, (by (repeat' (first | (with_reducible exact Ext.refl _) | (with_reducible assumption) | (with_reducible refine Ext.alloc ?_ _) | (with_reducible refine Ext.drew ?_) | (with_reducible refine Ext.drewN ?_ _) | (with_reducible refine Ext.setCell ?_ ?_ _) | (with_reducible refine Ext.trans ?_ (by assumption)))) <;> (first | (with_reducible assumption) | omega | (simp; done) | (simp; omega))), HO.out⟩
end Go.Proofs.Ytlifhoajamnehaa
