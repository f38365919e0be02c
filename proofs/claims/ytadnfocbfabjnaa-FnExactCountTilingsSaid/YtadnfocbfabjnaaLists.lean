/- Lists: contracts of functions, and lemmas, for this seat. Conditions: as each states. -/
import Derived.Test.YtadnfocbfabjnaaInkM
import Derived.Test.YtadnfocbfabjnaaOps
import Derived.Test.YtadnfocbfabjnaaEql
import Derived.Test.YtadnfocbfabjnaaFitM
import Derived.Test.YtadnfocbfabjnaaLaw
import Derived.Test.YtadnfocbfabjnaaSl
set_option linter.unusedVariables false
set_option maxRecDepth 100000
set_option maxHeartbeats 1000000
namespace Go.Proofs.Ytadnfocbfabjnaa
open Go Go.RowKit Instr
theorem list_n (n : Nat) (hn : n < 68719476736) (w : World) : Calls Try.prog 203 #[.int .u64 (n : Int)] w fun e w' => ∃ v, e = .returned v ∧ Ext w w' ∧ w'.ownsRow w.heap.size 3 1 v (fl n.testBit 36).length (ints (fl n.testBit 36)) := by
  obtain ⟨i0, hi, iz0, iz1, iz2⟩ := info_parts info_int
  skip
  go_enter Try.func203, Try.ntmps203
  go_wp2
  go_loopw [3, 6] (fun v i wr => ∃ k : Nat, k ≤ 36 ∧ i = .int .i64 k ∧ Ext w wr ∧ w.heap.size < wr.heap.size ∧ wr.ownsRow w.heap.size 3 1 v (fl n.testBit k).length (ints (fl n.testBit k))) (fun _ i _ => 36 - (intOf i).toNat)
  case atStart => exact ⟨0, Nat.zero_le _, rfl, (by (repeat' (first | (with_reducible exact Ext.refl _) | (with_reducible assumption) | (with_reducible refine Ext.alloc ?_ _) | (with_reducible refine Ext.drew ?_) | (with_reducible refine Ext.drewN ?_ _) | (with_reducible refine Ext.setCell ?_ ?_ _) | (with_reducible refine Ext.trans ?_ (by assumption)))) <;> (first | (with_reducible assumption) | omega | (simp; done) | (simp; omega))), by simp, own_empty _ 3 1 _ (by simp) (by simp)⟩
  case round =>
    obtain ⟨k, hk, rfl, hx, hz, ho⟩ := hrel
    obtain ⟨wo, rfl⟩ : ∃ wo : World, wo = wr := ⟨_, rfl⟩
    have HO := Lib.hid ho
    clear ho
    by_cases hlt : k < 36
    · have hle := fl_le n.testBit k
      have HH := Lib.hid (fun w => has_any n k hn hlt w)
      cases hp : n.testBit k
      · rw [hp] at HH
        have e := fl_miss hp
        rw [← e] at HO
        clear hp e
        go_wp2_with (go_at_call 217; refine (HH.out _).mono ?_; rintro e w' ⟨rfl, rfl⟩)
        refine ⟨⟨k + 1, by omega, by go_num, hx, hz, HO.out⟩, by simp [intOf]; omega⟩
      · rw [hp] at HH
        have e := Lib.hid (fl_hit hp)
        clear hp
        go_wp2_with (first | (go_at_call 217; refine (HH.out _).mono ?_; rintro e w' ⟨rfl, rfl⟩) | (at_builtin; refine wpList_append_own _ rfl _ _ 44 rfl w.heap.size 3 i0 (.int .i64 0) 1 8 Try.underlying44 hi iz0 iz1 iz2 rfl (by decide) _ _ _ rfl (HO.out.alloc _) ⟨_, 0, none⟩ 1 1 [.int .i64 (k : Int)] rfl rfl one_cell (by simp [Value.oneCell']) (by unfold maxLen; omega) (by omega) (by simp; omega) ?_; intro v1 w2 hown hgrow _))
        have HP := Lib.hid (own_push hx (Nat.le_refl _) HO.out hgrow)
        have hs2 := hgrow.size
        refine ⟨⟨k + 1, by omega, by go_num, HP.out.1, by simp at hs2; omega, ?_⟩, by simp [intOf]; omega⟩
        rw [e.out, List.length_append, ints_append]
        exact hown
    · obtain rfl : k = 36 := by omega
      go_wp2
      go_returns
      exact ⟨_, rfl, (by (repeat' (first | (with_reducible exact Ext.refl _) | (with_reducible assumption) | (with_reducible refine Ext.alloc ?_ _) | (with_reducible refine Ext.drew ?_) | (with_reducible refine Ext.drewN ?_ _) | (with_reducible refine Ext.setCell ?_ ?_ _) | (with_reducible refine Ext.trans ?_ (by assumption)))) <;> (first | (with_reducible assumption) | omega | (simp; done) | (simp; omega))), HO.out⟩
/-- a set, spread by a stamp -/
def spr (n m : Nat) : Nat := inkL n (fl m.testBit 36)
theorem spread_n (n m : Nat) (hn : n < 68719476736) (hm : m < 68719476736) (w : World) : Calls Try.prog 141 #[.int .u64 (n : Int), .int .u64 (m : Int)] w fun e w' => e = .returned (.int .u64 (spr n m : Nat)) ∧ Ext w w' := by
  have HL := Lib.hid (fun w => list_n m hm w)
  have hlen := fl_le m.testBit 36
  have HG := Lib.hid (fun i k (h : (fl m.testBit 36)[i]? = some k) => fl_lt h)
  unfold spr
  generalize fl m.testBit 36 = L at *
  go_enter Try.func141, Try.ntmps141
  go_wp2_with (go_at_call 203; refine (HL.out _).mono ?_; rintro e w1 ⟨v, rfl, hE, ho⟩; obtain ⟨ao, cap, rfl, hsh⟩ := own_shape ho; have HO := Lib.hid ho; clear ho; obtain ⟨wa, rfl⟩ : ∃ x, x = w1 := ⟨_, rfl⟩)
  go_loopw [5, 11] (fun o i wr => ∃ j : Nat, j ≤ L.length ∧ i = .int .i64 j ∧ o = .int .u64 (inkL n (L.take j) : Nat) ∧ Ext wa wr) (fun _ i _ => L.length - (intOf i).toNat)
  case atStart => exact ⟨0, Nat.zero_le _, rfl, rfl, (by (repeat' (first | (with_reducible exact Ext.refl _) | (with_reducible assumption) | (with_reducible refine Ext.alloc ?_ _) | (with_reducible refine Ext.drew ?_) | (with_reducible refine Ext.drewN ?_ _) | (with_reducible refine Ext.setCell ?_ ?_ _) | (with_reducible refine Ext.trans ?_ (by assumption)))) <;> (first | (with_reducible assumption) | omega | (simp; done) | (simp; omega)))⟩
  case round =>
    obtain ⟨j, hj, rfl, rfl, hx⟩ := hrel
    obtain ⟨wo, rfl⟩ : ∃ wo : World, wo = wr := ⟨_, rfl⟩
    by_cases hlt : j < L.length
    · obtain ⟨b, rfl, _, hb⟩ := hsh (by omega)
      obtain ⟨k, hk⟩ : ∃ k, L[j]? = some k := ⟨L[j], List.getElem?_eq_getElem hlt⟩
      have hk36 := HG.out j k hk
      have c1 := ((own_ext HO.out hx).cellAt j (by omega)).trans (ints_get L j k hk)
      have HP := Lib.hid (fun w => pressed_any n k hn hk36 w)
      have HS := Lib.hid (inkL_step n L j k hk)
      have hl := inkL_lt n (L.take j)
      have hz := sh_lt n (k % 6) (k / 6)
      clear hk
      generalize inkL n (L.take j) = x at *
      generalize sh n (k % 6) (k / 6) = z at *
      have e64 := or64 hl hz
      go_wp2_with (go_at_call 128; refine (HP.out _).mono ?_; rintro e w1 ⟨rfl, hE⟩)
      refine ⟨⟨j + 1, by omega, by go_num, val_int (by rw [HS.out]), (by (repeat' (first | (with_reducible exact Ext.refl _) | (with_reducible assumption) | (with_reducible refine Ext.alloc ?_ _) | (with_reducible refine Ext.drew ?_) | (with_reducible refine Ext.drewN ?_ _) | (with_reducible refine Ext.setCell ?_ ?_ _) | (with_reducible refine Ext.trans ?_ (by assumption)))) <;> (first | (with_reducible assumption) | omega | (simp; done) | (simp; omega)))⟩, by simp [intOf]; omega⟩
    · obtain rfl : j = L.length := by omega
      go_wp2
      go_returns
      exact ⟨ret_int (by rw [inkL_all]), (by (repeat' (first | (with_reducible exact Ext.refl _) | (with_reducible assumption) | (with_reducible refine Ext.alloc ?_ _) | (with_reducible refine Ext.drew ?_) | (with_reducible refine Ext.drewN ?_ _) | (with_reducible refine Ext.setCell ?_ ?_ _) | (with_reducible refine Ext.trans ?_ (by assumption)))) <;> (first | (with_reducible assumption) | omega | (simp; done) | (simp; omega)))⟩
theorem inkedAt_n (n : Nat) (hn : n < 68719476736) (L : List Nat) (hG : ∀ (i k : Nat), L[i]? = some k → k < 36) (hlen : L.length < 2000000) (B : Nat) (v : Value) (w : World) (ho : w.ownsRow B 3 1 v L.length (ints L)) :
    Calls Try.prog 183 #[.int .u64 (n : Int), v] w fun e w' => e = .returned (.int .u64 (inkL n L : Nat)) ∧ Ext w w' := by
  obtain ⟨ao, cap, rfl, hsh⟩ := own_shape ho
  have HO := Lib.hid ho
  have HG := Lib.hid hG
  clear ho hG
  go_enter Try.func183, Try.ntmps183
  go_wp2
  go_loopw [5, 10] (fun o i wr => ∃ j : Nat, j ≤ L.length ∧ i = .int .i64 j ∧ o = .int .u64 (inkL n (L.take j) : Nat) ∧ Ext w wr) (fun _ i _ => L.length - (intOf i).toNat)
  case atStart => exact ⟨0, Nat.zero_le _, rfl, rfl, (by (repeat' (first | (with_reducible exact Ext.refl _) | (with_reducible assumption) | (with_reducible refine Ext.alloc ?_ _) | (with_reducible refine Ext.drew ?_) | (with_reducible refine Ext.drewN ?_ _) | (with_reducible refine Ext.setCell ?_ ?_ _) | (with_reducible refine Ext.trans ?_ (by assumption)))) <;> (first | (with_reducible assumption) | omega | (simp; done) | (simp; omega)))⟩
  case round =>
    obtain ⟨j, hj, rfl, rfl, hx⟩ := hrel
    obtain ⟨wo, rfl⟩ : ∃ wo : World, wo = wr := ⟨_, rfl⟩
    by_cases hlt : j < L.length
    · obtain ⟨b, rfl, _, hb⟩ := hsh (by omega)
      obtain ⟨k, hk⟩ : ∃ k, L[j]? = some k := ⟨L[j], List.getElem?_eq_getElem hlt⟩
      have hk36 := HG.out j k hk
      have c1 := ((own_ext HO.out hx).cellAt j (by omega)).trans (ints_get L j k hk)
      have HP := Lib.hid (fun w => pressed_any n k hn hk36 w)
      have HS := Lib.hid (inkL_step n L j k hk)
      have hl := inkL_lt n (L.take j)
      have hz := sh_lt n (k % 6) (k / 6)
      clear hk
      generalize inkL n (L.take j) = x at *
      generalize sh n (k % 6) (k / 6) = z at *
      have e64 := or64 hl hz
      go_wp2_with (go_at_call 128; refine (HP.out _).mono ?_; rintro e w1 ⟨rfl, hE⟩)
      refine ⟨⟨j + 1, by omega, by go_num, val_int (by rw [HS.out]), (by (repeat' (first | (with_reducible exact Ext.refl _) | (with_reducible assumption) | (with_reducible refine Ext.alloc ?_ _) | (with_reducible refine Ext.drew ?_) | (with_reducible refine Ext.drewN ?_ _) | (with_reducible refine Ext.setCell ?_ ?_ _) | (with_reducible refine Ext.trans ?_ (by assumption)))) <;> (first | (with_reducible assumption) | omega | (simp; done) | (simp; omega)))⟩, by simp [intOf]; omega⟩
    · obtain rfl : j = L.length := by omega
      go_wp2
      go_returns
      exact ⟨ret_int (by rw [inkL_all]), (by (repeat' (first | (with_reducible exact Ext.refl _) | (with_reducible assumption) | (with_reducible refine Ext.alloc ?_ _) | (with_reducible refine Ext.drew ?_) | (with_reducible refine Ext.drewN ?_ _) | (with_reducible refine Ext.setCell ?_ ?_ _) | (with_reducible refine Ext.trans ?_ (by assumption)))) <;> (first | (with_reducible assumption) | omega | (simp; done) | (simp; omega)))⟩
theorem cellOf_any (k : Nat) (hk : k < 36) (w : World) : Calls Try.prog 154 #[.int .i64 (k : Int)] w fun e w' => e = .returned (.agg #[.int .i64 (((k % 6 : Nat) : Int)), .int .i64 (((k / 6 : Nat) : Int))]) ∧ Ext w w' := by
  go_enter Try.func154, Try.ntmps154
  go_wp2
  exact bodyPost_ret (ret_cell rfl rfl (load_two (Arr2.new w (fun j => if j = 1 then ((k / 6 : Nat) : Int) else ((k % 6 : Nat) : Int)) 33 rfl))) rfl ⟨rfl, (by (repeat' (first | (with_reducible exact Ext.refl _) | (with_reducible assumption) | (with_reducible refine Ext.alloc ?_ _) | (with_reducible refine Ext.drew ?_) | (with_reducible refine Ext.drewN ?_ _) | (with_reducible refine Ext.setCell ?_ ?_ _) | (with_reducible refine Ext.trans ?_ (by assumption)))) <;> (first | (with_reducible assumption) | omega | (simp; done) | (simp; omega)))⟩
theorem cellsOf_n (L : List Nat) (hG : ∀ (i k : Nat), L[i]? = some k → k < 36) (hlen : L.length < 2000000) (B : Nat) (v : Value) (w : World) (ho : w.ownsRow B 3 1 v L.length (ints L)) :
    Calls Try.prog 174 #[v] w fun e w' => ∃ u, e = .returned u ∧ Ext w w' ∧ w'.ownsRow w.heap.size 33 2 u L.length (pxy L) := by
  obtain ⟨i0, hi, iz0, iz1, iz2⟩ := info_parts info_two
  obtain ⟨ao, cap, rfl, hsh⟩ := own_shape ho
  have HI := Lib.hid ho
  have HG := Lib.hid hG
  clear ho hG
  go_enter Try.func174, Try.ntmps174
  go_wp2
  go_loopw [3, 9] (fun u i wr => ∃ j : Nat, j ≤ L.length ∧ i = .int .i64 j ∧ Ext w wr ∧ w.heap.size < wr.heap.size ∧ wr.ownsRow w.heap.size 33 2 u j (pxy (L.take j))) (fun _ i _ => L.length - (intOf i).toNat)
  case atStart => exact ⟨0, Nat.zero_le _, rfl, (by (repeat' (first | (with_reducible exact Ext.refl _) | (with_reducible assumption) | (with_reducible refine Ext.alloc ?_ _) | (with_reducible refine Ext.drew ?_) | (with_reducible refine Ext.drewN ?_ _) | (with_reducible refine Ext.setCell ?_ ?_ _) | (with_reducible refine Ext.trans ?_ (by assumption)))) <;> (first | (with_reducible assumption) | omega | (simp; done) | (simp; omega))), by simp, own_empty _ 33 2 _ (by simp) (by simp)⟩
  case round =>
    obtain ⟨j, hj, rfl, hx, hz, ho⟩ := hrel
    obtain ⟨wo, rfl⟩ : ∃ wo : World, wo = wr := ⟨_, rfl⟩
    have HO := Lib.hid ho
    clear ho
    by_cases hlt : j < L.length
    · obtain ⟨b, rfl, _, hb⟩ := hsh (by omega)
      obtain ⟨k, hk⟩ : ∃ k, L[j]? = some k := ⟨L[j], List.getElem?_eq_getElem hlt⟩
      have hk36 := HG.out j k hk
      have c1 := ((own_ext HI.out hx).cellAt j (by omega)).trans (ints_get L j k hk)
      have HC := Lib.hid (fun w => cellOf_any k hk36 w)
      have HS := Lib.hid (show pxy (L.take (j + 1)) = pxy (L.take j) ++ [.int .i64 ((k % 6 : Nat) : Int), .int .i64 ((k / 6 : Nat) : Int)] by rw [List.take_add_one, hk, pxy_append]; rfl)
      clear hk
      go_wp2_with (first | ((go_at_call 154; refine (HC.out _).mono ?_; rintro e w1 ⟨rfl, hE⟩); have HO1 := Lib.hid (own_ext HO.out hE); have hs := hE.size) | (at_builtin; refine wpList_append_own _ rfl _ _ 28 rfl w.heap.size 33 i0 (.agg #[.int .i64 0, .int .i64 0]) 2 16 Try.underlying28 hi iz0 iz1 iz2 rfl (by decide) _ _ _ rfl (HO1.out.alloc _) ⟨_, 0, none⟩ 1 1 [.int .i64 ((k % 6 : Nat) : Int), .int .i64 ((k / 6 : Nat) : Int)] rfl rfl two_cells (by simp [Value.oneCell']) (by unfold maxLen; omega) (by omega) (by simp; omega) ?_; intro v1 w2 hown hgrow _))
      have HP := Lib.hid (own_push (hx.trans hE) (Nat.le_refl _) HO1.out hgrow)
      have hs2 := hgrow.size
      refine ⟨⟨j + 1, by omega, by go_num, HP.out.1, by simp at hs2; omega, ?_⟩, by simp [intOf]; omega⟩
      rw [HS.out]
      exact hown
    · obtain rfl : j = L.length := by omega
      rw [List.take_length] at HO
      go_wp2
      go_returns
      exact ⟨_, rfl, (by (repeat' (first | (with_reducible exact Ext.refl _) | (with_reducible assumption) | (with_reducible refine Ext.alloc ?_ _) | (with_reducible refine Ext.drew ?_) | (with_reducible refine Ext.drewN ?_ _) | (with_reducible refine Ext.setCell ?_ ?_ _) | (with_reducible refine Ext.trans ?_ (by assumption)))) <;> (first | (with_reducible assumption) | omega | (simp; done) | (simp; omega))), HO.out⟩
end Go.Proofs.Ytadnfocbfabjnaa
