/- Need3: contracts of functions, and lemmas, for this seat. Conditions: as each states. -/
import Derived.Test.YtadnfocbfabjnaaNeed2
import Derived.Test.YtadnfocbfabjnaaAppB
set_option linter.unusedVariables false
set_option maxRecDepth 100000
set_option maxHeartbeats 2000000
namespace Go.Proofs.Ytadnfocbfabjnaa
open Go Go.RowKit Instr
theorem pxy_take : ∀ (L : List Nat) (j : Nat), pxy (L.take j) = (pxy L).take (j * 2)
  | [], j => by rw [List.take_nil]; show pxy [] = List.take _ []; rw [List.take_nil]; rfl
  | k :: L, 0 => by simp [pxy]
  | k :: L, j + 1 => by
    rw [List.take_succ_cons]
    have h := pxy_take L j
    show _ :: _ :: pxy (L.take j) = List.take ((j + 1) * 2) (_ :: _ :: pxy L)
    rw [h, show (j + 1) * 2 = j * 2 + 1 + 1 by omega, List.take_succ_cons, List.take_succ_cons]
theorem pxy_drop : ∀ (L : List Nat) (j : Nat), pxy (L.drop j) = (pxy L).drop (j * 2)
  | [], j => by rw [List.drop_nil]; show pxy [] = List.drop _ []; rw [List.drop_nil]; rfl
  | k :: L, 0 => by simp
  | k :: L, j + 1 => by
    rw [List.drop_succ_cons]
    have h := pxy_drop L j
    show pxy (L.drop j) = List.drop ((j + 1) * 2) (_ :: _ :: pxy L)
    rw [h, show (j + 1) * 2 = j * 2 + 1 + 1 by omega, List.drop_succ_cons, List.drop_succ_cons]
theorem pxy_ones (L : List Nat) : ∀ u ∈ pxy L, u.oneCell' = true := by
  intro u hu
  unfold pxy at hu
  obtain ⟨k, _, hk⟩ := List.mem_flatMap.1 hu
  simp at hk
  rcases hk with rfl | rfl <;> rfl
theorem kept_stable (B b : Nat) (e : TypeId) (size : Nat) (v : Value) (n : Nat) (xs : List Value) : Stable fun w => w.ownsRow B e size v n xs ∧ b ≤ w.heap.size := fun _ _ hx h => ⟨own_ext h.1 hx, Nat.le_trans h.2 hx.size⟩
theorem sNeededCells_ok (n m : Nat) (hn : n < 68719476736) (hm : m < 68719476736) (h : canP n m = true) (L : List Nat) (hL : L = fl (opP n m) 36) (w : World) :
    Calls Try.prog 99 #[(.agg #[.int .i64 (rw n 0), .int .i64 (rw n 1), .int .i64 (rw n 2), .int .i64 (rw n 3), .int .i64 (rw n 4), .int .i64 (rw n 5)]), (.agg #[.int .i64 (rw m 0), .int .i64 (rw m 1), .int .i64 (rw m 2), .int .i64 (rw m 3), .int .i64 (rw m 4), .int .i64 (rw m 5)])] w fun e w' => ∃ v, e = .returned (.tuple #[v, .bool true]) ∧ Ext w w' ∧ w'.ownsRow w.heap.size 33 2 v (ndG (ndP n m L) L L.length).length (pxy (ndG (ndP n m L) L L.length)) := by
  obtain ⟨i0, hi, iz0, iz1, iz2⟩ := info_parts info_two
  have HC := Lib.hid (fun w => l6Can_n n m hm w)
  rw [h] at HC
  have HO := Lib.hid (fun w => l6Open_n n m w)
  rw [← hL] at HO
  have HG0 : ∀ (i k : Nat), (fl (opP n m) 36)[i]? = some k → k < 36 := fun i k h => fl_lt h
  rw [← hL] at HG0
  have HG := Lib.hid HG0
  clear HG0
  have hlen : L.length ≤ 36 := by rw [hL]; exact fl_le (opP n m) 36
  clear h hL
  skip
  go_enter Try.func99, Try.ntmps99
  have tk0 := Lib.hid True.intro
  go_wp2_with (first | (clear tk0; ((go_at_call 106; refine (l2Sheet_n n _).mono ?_; rintro e w1 ⟨rfl, hE⟩; replace HA := Lib.hid ((show Arr _ (w.heap.size) (rw n) by first | with_reducible exact HA.out | with_reducible exact Arr.ext HA.out ((Ext.refl _).alloc _) lHA | with_reducible exact Arr.ext HA.out (((Ext.refl _).alloc _).alloc _) lHA | with_reducible exact Arr.ext HA.out ((((Ext.refl _).alloc _).alloc _).alloc _) lHA | exact HA.out | exact Arr.new _ (rw n) _ (by first | rfl | (simp; done) | (simp; omega)) | exact (Arr.new _ (rw n) _ (by first | rfl | (simp; done) | (simp; omega))).ext ((Ext.refl _).alloc _) (by first | (simp; done) | (simp; omega)) | exact ((Arr.new _ (rw n) _ (by first | rfl | (simp; done) | (simp; omega))).ext ((Ext.refl _).alloc _) (by first | (simp; done) | (simp; omega))).ext ((Ext.refl _).alloc _) (by first | (simp; done) | (simp; omega)) | exact (((Arr.new _ (rw n) _ (by first | rfl | (simp; done) | (simp; omega))).ext ((Ext.refl _).alloc _) (by first | (simp; done) | (simp; omega))).ext ((Ext.refl _).alloc _) (by first | (simp; done) | (simp; omega))).ext ((Ext.refl _).alloc _) (by first | (simp; done) | (simp; omega))).ext hE (by first | exact lHA | (simp; done) | (simp; omega))); replace lHA : w.heap.size < w1.heap.size := Nat.lt_of_lt_of_le (by first | exact lHA | (simp; done) | (simp; omega)) hE.size; (try clear HA0 HA1 HA2 HA3 HA4 HA5); obtain ⟨⟨HA0, HA1, HA2, HA3, HA4, HA5⟩, _⟩ := HA.out.all; replace HM := Lib.hid ((show Arr _ (w.heap.size + 1) (rw m) by first | with_reducible exact HM.out | with_reducible exact Arr.ext HM.out ((Ext.refl _).alloc _) lHM | with_reducible exact Arr.ext HM.out (((Ext.refl _).alloc _).alloc _) lHM | with_reducible exact Arr.ext HM.out ((((Ext.refl _).alloc _).alloc _).alloc _) lHM | exact HM.out | exact Arr.new _ (rw m) _ (by first | rfl | (simp; done) | (simp; omega)) | exact (Arr.new _ (rw m) _ (by first | rfl | (simp; done) | (simp; omega))).ext ((Ext.refl _).alloc _) (by first | (simp; done) | (simp; omega)) | exact ((Arr.new _ (rw m) _ (by first | rfl | (simp; done) | (simp; omega))).ext ((Ext.refl _).alloc _) (by first | (simp; done) | (simp; omega))).ext ((Ext.refl _).alloc _) (by first | (simp; done) | (simp; omega)) | exact (((Arr.new _ (rw m) _ (by first | rfl | (simp; done) | (simp; omega))).ext ((Ext.refl _).alloc _) (by first | (simp; done) | (simp; omega))).ext ((Ext.refl _).alloc _) (by first | (simp; done) | (simp; omega))).ext ((Ext.refl _).alloc _) (by first | (simp; done) | (simp; omega))).ext hE (by first | exact lHM | (simp; done) | (simp; omega))); replace lHM : w.heap.size + 1 < w1.heap.size := Nat.lt_of_lt_of_le (by first | exact lHM | (simp; done) | (simp; omega)) hE.size; (try clear HM0 HM1 HM2 HM3 HM4 HM5); obtain ⟨⟨HM0, HM1, HM2, HM3, HM4, HM5⟩, _⟩ := HM.out.all); have hs0 : w.heap.size + 3 ≤ w1.heap.size := (by have := hE.size; simp at this; omega); have HO1 := Lib.hid (own_ext (own_empty _ 33 2 (w.heap.size + 2) (by first | (simp; done) | (simp; omega)) (b := w.heap.size + 2) (by first | rfl | (simp; done) | (simp; omega))) hE))) | ((go_at_call 106; refine (l2Sheet_n m _).mono ?_; rintro e w1 ⟨rfl, hE⟩; replace HA := Lib.hid ((show Arr _ (w.heap.size) (rw n) by first | with_reducible exact HA.out | with_reducible exact Arr.ext HA.out ((Ext.refl _).alloc _) lHA | with_reducible exact Arr.ext HA.out (((Ext.refl _).alloc _).alloc _) lHA | with_reducible exact Arr.ext HA.out ((((Ext.refl _).alloc _).alloc _).alloc _) lHA | exact HA.out | exact Arr.new _ (rw n) _ (by first | rfl | (simp; done) | (simp; omega)) | exact (Arr.new _ (rw n) _ (by first | rfl | (simp; done) | (simp; omega))).ext ((Ext.refl _).alloc _) (by first | (simp; done) | (simp; omega)) | exact ((Arr.new _ (rw n) _ (by first | rfl | (simp; done) | (simp; omega))).ext ((Ext.refl _).alloc _) (by first | (simp; done) | (simp; omega))).ext ((Ext.refl _).alloc _) (by first | (simp; done) | (simp; omega)) | exact (((Arr.new _ (rw n) _ (by first | rfl | (simp; done) | (simp; omega))).ext ((Ext.refl _).alloc _) (by first | (simp; done) | (simp; omega))).ext ((Ext.refl _).alloc _) (by first | (simp; done) | (simp; omega))).ext ((Ext.refl _).alloc _) (by first | (simp; done) | (simp; omega))).ext hE (by first | exact lHA | (simp; done) | (simp; omega))); replace lHA : w.heap.size < w1.heap.size := Nat.lt_of_lt_of_le (by first | exact lHA | (simp; done) | (simp; omega)) hE.size; (try clear HA0 HA1 HA2 HA3 HA4 HA5); obtain ⟨⟨HA0, HA1, HA2, HA3, HA4, HA5⟩, _⟩ := HA.out.all; replace HM := Lib.hid ((show Arr _ (w.heap.size + 1) (rw m) by first | with_reducible exact HM.out | with_reducible exact Arr.ext HM.out ((Ext.refl _).alloc _) lHM | with_reducible exact Arr.ext HM.out (((Ext.refl _).alloc _).alloc _) lHM | with_reducible exact Arr.ext HM.out ((((Ext.refl _).alloc _).alloc _).alloc _) lHM | exact HM.out | exact Arr.new _ (rw m) _ (by first | rfl | (simp; done) | (simp; omega)) | exact (Arr.new _ (rw m) _ (by first | rfl | (simp; done) | (simp; omega))).ext ((Ext.refl _).alloc _) (by first | (simp; done) | (simp; omega)) | exact ((Arr.new _ (rw m) _ (by first | rfl | (simp; done) | (simp; omega))).ext ((Ext.refl _).alloc _) (by first | (simp; done) | (simp; omega))).ext ((Ext.refl _).alloc _) (by first | (simp; done) | (simp; omega)) | exact (((Arr.new _ (rw m) _ (by first | rfl | (simp; done) | (simp; omega))).ext ((Ext.refl _).alloc _) (by first | (simp; done) | (simp; omega))).ext ((Ext.refl _).alloc _) (by first | (simp; done) | (simp; omega))).ext ((Ext.refl _).alloc _) (by first | (simp; done) | (simp; omega))).ext hE (by first | exact lHM | (simp; done) | (simp; omega))); replace lHM : w.heap.size + 1 < w1.heap.size := Nat.lt_of_lt_of_le (by first | exact lHM | (simp; done) | (simp; omega)) hE.size; (try clear HM0 HM1 HM2 HM3 HM4 HM5); obtain ⟨⟨HM0, HM1, HM2, HM3, HM4, HM5⟩, _⟩ := HM.out.all); replace hs0 := Nat.le_trans hs0 hE.size; replace HO1 := Lib.hid (own_ext HO1.out hE)) | ((go_at_call 180; refine (HC.out _).mono ?_; rintro e w1 ⟨rfl, hE⟩; replace HA := Lib.hid ((show Arr _ (w.heap.size) (rw n) by first | with_reducible exact HA.out | with_reducible exact Arr.ext HA.out ((Ext.refl _).alloc _) lHA | with_reducible exact Arr.ext HA.out (((Ext.refl _).alloc _).alloc _) lHA | with_reducible exact Arr.ext HA.out ((((Ext.refl _).alloc _).alloc _).alloc _) lHA | exact HA.out | exact Arr.new _ (rw n) _ (by first | rfl | (simp; done) | (simp; omega)) | exact (Arr.new _ (rw n) _ (by first | rfl | (simp; done) | (simp; omega))).ext ((Ext.refl _).alloc _) (by first | (simp; done) | (simp; omega)) | exact ((Arr.new _ (rw n) _ (by first | rfl | (simp; done) | (simp; omega))).ext ((Ext.refl _).alloc _) (by first | (simp; done) | (simp; omega))).ext ((Ext.refl _).alloc _) (by first | (simp; done) | (simp; omega)) | exact (((Arr.new _ (rw n) _ (by first | rfl | (simp; done) | (simp; omega))).ext ((Ext.refl _).alloc _) (by first | (simp; done) | (simp; omega))).ext ((Ext.refl _).alloc _) (by first | (simp; done) | (simp; omega))).ext ((Ext.refl _).alloc _) (by first | (simp; done) | (simp; omega))).ext hE (by first | exact lHA | (simp; done) | (simp; omega))); replace lHA : w.heap.size < w1.heap.size := Nat.lt_of_lt_of_le (by first | exact lHA | (simp; done) | (simp; omega)) hE.size; (try clear HA0 HA1 HA2 HA3 HA4 HA5); obtain ⟨⟨HA0, HA1, HA2, HA3, HA4, HA5⟩, _⟩ := HA.out.all; replace HM := Lib.hid ((show Arr _ (w.heap.size + 1) (rw m) by first | with_reducible exact HM.out | with_reducible exact Arr.ext HM.out ((Ext.refl _).alloc _) lHM | with_reducible exact Arr.ext HM.out (((Ext.refl _).alloc _).alloc _) lHM | with_reducible exact Arr.ext HM.out ((((Ext.refl _).alloc _).alloc _).alloc _) lHM | exact HM.out | exact Arr.new _ (rw m) _ (by first | rfl | (simp; done) | (simp; omega)) | exact (Arr.new _ (rw m) _ (by first | rfl | (simp; done) | (simp; omega))).ext ((Ext.refl _).alloc _) (by first | (simp; done) | (simp; omega)) | exact ((Arr.new _ (rw m) _ (by first | rfl | (simp; done) | (simp; omega))).ext ((Ext.refl _).alloc _) (by first | (simp; done) | (simp; omega))).ext ((Ext.refl _).alloc _) (by first | (simp; done) | (simp; omega)) | exact (((Arr.new _ (rw m) _ (by first | rfl | (simp; done) | (simp; omega))).ext ((Ext.refl _).alloc _) (by first | (simp; done) | (simp; omega))).ext ((Ext.refl _).alloc _) (by first | (simp; done) | (simp; omega))).ext ((Ext.refl _).alloc _) (by first | (simp; done) | (simp; omega))).ext hE (by first | exact lHM | (simp; done) | (simp; omega))); replace lHM : w.heap.size + 1 < w1.heap.size := Nat.lt_of_lt_of_le (by first | exact lHM | (simp; done) | (simp; omega)) hE.size; (try clear HM0 HM1 HM2 HM3 HM4 HM5); obtain ⟨⟨HM0, HM1, HM2, HM3, HM4, HM5⟩, _⟩ := HM.out.all); replace hs0 := Nat.le_trans hs0 hE.size; replace HO1 := Lib.hid (own_ext HO1.out hE)) | ((go_at_call 166; refine (HO.out _).mono ?_; rintro e w1 ⟨v0, rfl, hE, ho⟩; replace HA := Lib.hid ((show Arr _ (w.heap.size) (rw n) by first | with_reducible exact HA.out | with_reducible exact Arr.ext HA.out ((Ext.refl _).alloc _) lHA | with_reducible exact Arr.ext HA.out (((Ext.refl _).alloc _).alloc _) lHA | with_reducible exact Arr.ext HA.out ((((Ext.refl _).alloc _).alloc _).alloc _) lHA | exact HA.out | exact Arr.new _ (rw n) _ (by first | rfl | (simp; done) | (simp; omega)) | exact (Arr.new _ (rw n) _ (by first | rfl | (simp; done) | (simp; omega))).ext ((Ext.refl _).alloc _) (by first | (simp; done) | (simp; omega)) | exact ((Arr.new _ (rw n) _ (by first | rfl | (simp; done) | (simp; omega))).ext ((Ext.refl _).alloc _) (by first | (simp; done) | (simp; omega))).ext ((Ext.refl _).alloc _) (by first | (simp; done) | (simp; omega)) | exact (((Arr.new _ (rw n) _ (by first | rfl | (simp; done) | (simp; omega))).ext ((Ext.refl _).alloc _) (by first | (simp; done) | (simp; omega))).ext ((Ext.refl _).alloc _) (by first | (simp; done) | (simp; omega))).ext ((Ext.refl _).alloc _) (by first | (simp; done) | (simp; omega))).ext hE (by first | exact lHA | (simp; done) | (simp; omega))); replace lHA : w.heap.size < w1.heap.size := Nat.lt_of_lt_of_le (by first | exact lHA | (simp; done) | (simp; omega)) hE.size; (try clear HA0 HA1 HA2 HA3 HA4 HA5); obtain ⟨⟨HA0, HA1, HA2, HA3, HA4, HA5⟩, _⟩ := HA.out.all; replace HM := Lib.hid ((show Arr _ (w.heap.size + 1) (rw m) by first | with_reducible exact HM.out | with_reducible exact Arr.ext HM.out ((Ext.refl _).alloc _) lHM | with_reducible exact Arr.ext HM.out (((Ext.refl _).alloc _).alloc _) lHM | with_reducible exact Arr.ext HM.out ((((Ext.refl _).alloc _).alloc _).alloc _) lHM | exact HM.out | exact Arr.new _ (rw m) _ (by first | rfl | (simp; done) | (simp; omega)) | exact (Arr.new _ (rw m) _ (by first | rfl | (simp; done) | (simp; omega))).ext ((Ext.refl _).alloc _) (by first | (simp; done) | (simp; omega)) | exact ((Arr.new _ (rw m) _ (by first | rfl | (simp; done) | (simp; omega))).ext ((Ext.refl _).alloc _) (by first | (simp; done) | (simp; omega))).ext ((Ext.refl _).alloc _) (by first | (simp; done) | (simp; omega)) | exact (((Arr.new _ (rw m) _ (by first | rfl | (simp; done) | (simp; omega))).ext ((Ext.refl _).alloc _) (by first | (simp; done) | (simp; omega))).ext ((Ext.refl _).alloc _) (by first | (simp; done) | (simp; omega))).ext ((Ext.refl _).alloc _) (by first | (simp; done) | (simp; omega))).ext hE (by first | exact lHM | (simp; done) | (simp; omega))); replace lHM : w.heap.size + 1 < w1.heap.size := Nat.lt_of_lt_of_le (by first | exact lHM | (simp; done) | (simp; omega)) hE.size; (try clear HM0 HM1 HM2 HM3 HM4 HM5); obtain ⟨⟨HM0, HM1, HM2, HM3, HM4, HM5⟩, _⟩ := HM.out.all; have HV := Lib.hid ho; clear ho); replace HV := Lib.hid (own_mono HV.out hs0); replace hs0 := Nat.le_trans hs0 hE.size; replace HO1 := Lib.hid (own_ext HO1.out hE); obtain ⟨wa, rfl⟩ : ∃ x, x = w1 := ⟨_, rfl⟩))
  have hxa : Ext w wa := (by (repeat' (first | (with_reducible exact Ext.refl _) | (with_reducible assumption) | (with_reducible refine Ext.alloc ?_ _) | (with_reducible refine Ext.drew ?_) | (with_reducible refine Ext.drewN ?_ _) | (with_reducible refine Ext.setCell ?_ ?_ _) | (with_reducible refine Ext.trans ?_ (by assumption)))) <;> (first | (with_reducible assumption) | omega | (simp; done) | (simp; omega)))
  have HVB := Lib.hid HV.out.lt
  obtain ⟨vo, vc, rfl, vsh⟩ := own_shape HV.out
  have hcap := own_cap HV.out
  go_loopw [6, 8] (fun u i wr => ∃ j : Nat, j ≤ L.length ∧ i = .int .i64 j ∧ Ext w wr ∧ Arr wr w.heap.size (rw n) ∧ Arr wr (w.heap.size + 1) (rw m) ∧ wr.ownsRow (w.heap.size + 2) 33 2 u (ndG (ndP n m L) L j).length (pxy (ndG (ndP n m L) L j)) ∧ wr.ownsRow (w.heap.size + 3) 33 2 (.slice vo L.length vc) L.length (pxy L) ∧ (∀ k, u.ownBlock = some k → k = w.heap.size + 2 ∨ wa.heap.size ≤ k) ∧ wa.heap.size ≤ wr.heap.size) (fun _ i _ => L.length - (intOf i).toNat)
  case atStart =>
    refine ⟨0, Nat.zero_le _, rfl, (by (repeat' (first | (with_reducible exact Ext.refl _) | (with_reducible assumption) | (with_reducible refine Ext.alloc ?_ _) | (with_reducible refine Ext.drew ?_) | (with_reducible refine Ext.drewN ?_ _) | (with_reducible refine Ext.setCell ?_ ?_ _) | (with_reducible refine Ext.trans ?_ (by assumption)))) <;> (first | (with_reducible assumption) | omega | (simp; done) | (simp; omega))), HA.out, HM.out, ?_, HV.out, fun k hk => ?_, Nat.le_refl _⟩
    · rw [ndG_0]
      exact HO1.out
    · left
      simp [Value.ownBlock] at hk
      omega
  case round =>
    clear HA HM HA0 HA1 HA2 HA3 HA4 HA5 HM0 HM1 HM2 HM3 HM4 HM5 HO1 HV
    obtain ⟨j, hj, rfl, hx, ha, hmm, ho, hv, hub, hz⟩ := hrel
    obtain ⟨wo, rfl⟩ : ∃ wo : World, wo = wr := ⟨_, rfl⟩
    have HA := Lib.hid ha
    have HM := Lib.hid hmm
    obtain ⟨uo, uc, rfl, _⟩ := own_shape ho
    have HU := Lib.hid ho
    have HV := Lib.hid hv
    have HUB := Lib.hid hub
    clear ha hmm ho hv hub
    have za : w.heap.size < wo.heap.size := by omega
    have zm : w.heap.size + 1 < wo.heap.size := by omega
    by_cases hlt : j < L.length
    · obtain ⟨vb, rfl, hvl, hvb⟩ := vsh (by omega)
      have hvi : vb < wo.heap.size := by omega
      have hdec : L.length - (j + 1) < L.length - j := by omega
      obtain ⟨k, hk⟩ : ∃ k, L[j]? = some k := ⟨L[j], List.getElem?_eq_getElem hlt⟩
      have hlT : (L.take j).length = j := by rw [List.length_take]; omega
      have hlD : (L.drop (j + 1)).length = L.length - (j + 1) := List.length_drop
      have HLL := Lib.hid (show (L.take j ++ L.drop (j + 1)).length ≤ 36 by rw [List.length_append, hlT, hlD]; omega)
      have HLG := Lib.hid (show ∀ (i q : Nat), (L.take j ++ L.drop (j + 1))[i]? = some q → q < 36 from fun i q h => by
        rcases List.mem_append.1 (List.mem_of_getElem? h) with h1 | h1
        · obtain ⟨e, he⟩ := List.mem_iff_getElem?.1 (List.mem_of_mem_take h1)
          exact HG.out e q he
        · obtain ⟨e, he⟩ := List.mem_iff_getElem?.1 (List.mem_of_mem_drop h1)
          exact HG.out e q he)
      have HIN := Lib.hid (fun B v w ho => l6Ink_n n (L.take j ++ L.drop (j + 1)) HLG.out (by have := HLL.out; omega) B v w ho)
      have HPT := Lib.hid (fun h => ndG_t (ndP n m L) L j k h hk)
      have HPF := Lib.hid (ndG_f (ndP n m L) L j)
      have HPD := Lib.hid (show ndP n m L j = decide (inkL n (L.take j ++ L.drop (j + 1)) ≠ m) from rfl)
      have HDL := Lib.hid (ndG_len (ndP n m L) L j)
      have HT1 := Lib.hid (show ∀ wc, Ext wo wc → ∀ (i : Nat) (u : Value), (pxy (L.take j))[i]? = some u → wc.cell? ((⟨vb, 0, none⟩ : Addr).add i) = some u from fun wc hx i u hu => by
        rw [Go.WideShapes.add_plain, Nat.zero_add]
        rw [pxy_take, List.getElem?_take] at hu
        split at hu
        · exact ((own_ext HV.out hx).cellAt i (by omega)).trans hu
        · cases hu)
      have HT2 := Lib.hid (show ∀ wc, Ext wo wc → ∀ (i : Nat) (u : Value), (pxy (L.drop (j + 1)))[i]? = some u → wc.cell? ((⟨vb, if vc = j + 1 then 0 else (j + 1) * 2, none⟩ : Addr).add i) = some u from fun wc hx i u hu => by
        have hi : i < (L.length - (j + 1)) * 2 := by
          have := (List.getElem?_eq_some_iff.1 hu).1
          rw [pxy_length, hlD] at this
          exact this
        rw [if_neg (by omega), Go.WideShapes.add_plain]
        rw [pxy_drop, List.getElem?_drop] at hu
        exact ((own_ext HV.out hx).cellAt ((j + 1) * 2 + i) (by omega)).trans hu)
      have HTE := Lib.hid (pxy_append (L.take j) (L.drop (j + 1)))
      have HT3 := Lib.hid (pxy_length (L.take j))
      have HT4 := Lib.hid (pxy_length (L.drop (j + 1)))
      have HT5 := Lib.hid (pxy_ones (L.take j))
      have HT6 := Lib.hid (pxy_ones (L.drop (j + 1)))
      have HLA := Lib.hid (show (L.take j ++ L.drop (j + 1)).length = 0 + j + (L.length - (j + 1)) by rw [List.length_append, hlT, hlD]; omega)
      rw [hlT] at HT3
      rw [hlD] at HT4
      have p1 := (HV.out.cellAt (j * 2) (by omega)).trans (pxy_get L j k hk).1
      have p2 := (HV.out.cellAt (j * 2 + 1) (by omega)).trans (pxy_get L j k hk).2
      have Q := Lib.hid (show pxy [k] = [.int .i64 ((k % 6 : Nat) : Int), .int .i64 ((k / 6 : Nat) : Int)] from rfl)
      clear hk
      generalize L.take j ++ L.drop (j + 1) = M at *
      generalize pxy (L.take j) = X1 at *
      generalize pxy (L.drop (j + 1)) = X2 at *
      have hif : (if vc = j + 1 then some (⟨vb, 0, none⟩ : Addr) else some ⟨vb, (j + 1) * 2, none⟩) = some ⟨vb, if vc = j + 1 then 0 else (j + 1) * 2, none⟩ := by split <;> rfl
      generalize (if vc = j + 1 then 0 else (j + 1) * 2) = a2 at *
      have hzl := inkL_lt n M
      skip
      go_wp2
      refine wp_perm [(1, true), (2, true), (3, true), (5, true), (6, true), (7, true), (8, true), (0, false), (4, false), (9, false), (10, true)] [] (by kernel_rfl) (by kernel_rfl) ?_; simp only [pickO, pickT, List.getElem?_cons_succ, List.getElem?_cons_zero]; intro hgr
      (refine walkP_step (fun K hK => ?_); go_simp; (try (go_ints; try go_simp)); first | (refine hK _ ?_; clear hK K) | (apply Exists.intro; refine ⟨fun _ => ?_, hK _ ?_⟩; (fail); clear hK K) | (simp only [↓IntWalk.iteOmega]; (try go_simp); (try (go_ints; try go_simp)); first | (refine hK _ ?_; clear hK K) | (apply Exists.intro; refine ⟨fun _ => ?_, hK _ ?_⟩; (fail); clear hK K))); (refine walkP_step (fun K hK => ?_); go_simp; (try (go_ints; try go_simp)); first | (refine hK _ ?_; clear hK K) | (apply Exists.intro; refine ⟨fun _ => ?_, hK _ ?_⟩; (fail); clear hK K) | (simp only [↓IntWalk.iteOmega]; (try go_simp); (try (go_ints; try go_simp)); first | (refine hK _ ?_; clear hK K) | (apply Exists.intro; refine ⟨fun _ => ?_, hK _ ?_⟩; (fail); clear hK K))); (refine walkP_step (fun K hK => ?_); go_simp; (try (go_ints; try go_simp)); first | (refine hK _ ?_; clear hK K) | (apply Exists.intro; refine ⟨fun _ => ?_, hK _ ?_⟩; (fail); clear hK K) | (simp only [↓IntWalk.iteOmega]; (try go_simp); (try (go_ints; try go_simp)); first | (refine hK _ ?_; clear hK K) | (apply Exists.intro; refine ⟨fun _ => ?_, hK _ ?_⟩; (fail); clear hK K))); (refine walkP_step (fun K hK => ?_); go_simp; (try (go_ints; try go_simp)); first | (refine hK _ ?_; clear hK K) | (apply Exists.intro; refine ⟨fun _ => ?_, hK _ ?_⟩; (fail); clear hK K) | (simp only [↓IntWalk.iteOmega]; (try go_simp); (try (go_ints; try go_simp)); first | (refine hK _ ?_; clear hK K) | (apply Exists.intro; refine ⟨fun _ => ?_, hK _ ?_⟩; (fail); clear hK K))); (refine walkP_step (fun K hK => ?_); go_simp; (try (go_ints; try go_simp)); first | (refine hK _ ?_; clear hK K) | (apply Exists.intro; refine ⟨fun _ => ?_, hK _ ?_⟩; (fail); clear hK K) | (simp only [↓IntWalk.iteOmega]; (try go_simp); (try (go_ints; try go_simp)); first | (refine hK _ ?_; clear hK K) | (apply Exists.intro; refine ⟨fun _ => ?_, hK _ ?_⟩; (fail); clear hK K))); (refine walkP_step (fun K hK => ?_); go_simp; (try (go_ints; try go_simp)); first | (refine hK _ ?_; clear hK K) | (apply Exists.intro; refine ⟨fun _ => ?_, hK _ ?_⟩; (fail); clear hK K) | (simp only [↓IntWalk.iteOmega]; (try go_simp); (try (go_ints; try go_simp)); first | (refine hK _ ?_; clear hK K) | (apply Exists.intro; refine ⟨fun _ => ?_, hK _ ?_⟩; (fail); clear hK K))); (refine walkP_step (fun K hK => ?_); go_simp; (try (go_ints; try go_simp)); first | (refine hK _ ?_; clear hK K) | (apply Exists.intro; refine ⟨fun _ => ?_, hK _ ?_⟩; (fail); clear hK K) | (simp only [↓IntWalk.iteOmega]; (try go_simp); (try (go_ints; try go_simp)); first | (refine hK _ ?_; clear hK K) | (apply Exists.intro; refine ⟨fun _ => ?_, hK _ ?_⟩; (fail); clear hK K)))
      refine walkP_callR (fun v => v) (fun v w' => w'.ownsRow wo.heap.size 33 2 v 0 [] ∧ wo.heap.size ≤ w'.heap.size) (fun _ => kept_stable _ _ _ _ _ _ _) rfl (fun wc hxc _ R hR => ?_) (fun v1 => ?_)
      · have hs := hxc.size
        simp at hs
        go_simp
        simp only [anyUpon]
        exact hR _ _ ((Ext.refl _).alloc _) ⟨own_empty _ _ _ _ hs rfl, by simp; omega⟩
      refine walkP_append rfl _ _ _ rfl wo.heap.size 33 i0 (.agg #[.int .i64 0, .int .i64 0]) 2 16 Try.underlying28 hi iz0 iz1 iz2 (by rfl) (by decide) (by simp) v1 0 [] (by rfl) ⟨vb, 0, none⟩ j vc X1 (by rfl) HT3.out HT5.out (by unfold maxLen; omega) (by omega) (fun wc hxc hF => ⟨hF.2.1, hF.2.2, HT1.out wc (((Ext.refl wo).drew).trans hxc)⟩) (fun v2 => ?_)
      refine walkP_append rfl _ _ _ rfl wo.heap.size 33 i0 (.agg #[.int .i64 0, .int .i64 0]) 2 16 Try.underlying28 hi iz0 iz1 iz2 (by rfl) (by decide) (by simp) v2 _ _ (by rfl) ⟨vb, a2, none⟩ (L.length - (j + 1)) (vc - (j + 1)) X2 (by rfl) HT4.out HT6.out (by unfold maxLen; omega) (by omega) (fun wc hxc hF => ⟨hF.1, hF.2, HT2.out wc (((Ext.refl wo).drew).trans hxc)⟩) (fun v3 => ?_)
      (refine walkP_step (fun K hK => ?_); go_simp; (try (go_ints; try go_simp)); first | (refine hK _ ?_; clear hK K) | (apply Exists.intro; refine ⟨fun _ => ?_, hK _ ?_⟩; (fail); clear hK K) | (simp only [↓IntWalk.iteOmega]; (try go_simp); (try (go_ints; try go_simp)); first | (refine hK _ ?_; clear hK K) | (apply Exists.intro; refine ⟨fun _ => ?_, hK _ ?_⟩; (fail); clear hK K)))
      refine walkP_nil ?_; clear hgr; intro w1 hE hF
      replace hE : Ext wo w1 := ((Ext.refl wo).drew).trans hE
      have HR := Lib.hid hF.1
      rw [List.nil_append, ← HTE.out, ← HLA.out] at HR
      clear hF
      obtain ⟨w3, rfl⟩ : ∃ x, x = w1 := ⟨_, rfl⟩
      have hs3 := hE.size
      have HA1 := Lib.hid (HA.out.ext hE za)
      have HM1 := Lib.hid (HM.out.ext hE zm)
      have za3 : w.heap.size < w3.heap.size := by omega
      have zm3 : w.heap.size + 1 < w3.heap.size := by omega
      obtain ⟨⟨a0, a1, a2', a3, a4, a5⟩, _⟩ := HA1.out.all
      obtain ⟨⟨m0, m1, m2, m3, m4, m5⟩, _⟩ := HM1.out.all
      obtain ⟨v3o, v3c, rfl, _⟩ := own_shape HR.out
      have HX3 := Lib.hid hE
      have HI3 := Lib.hid (fun wc (hx : Ext w3 wc) => HIN.out _ _ wc (own_ext HR.out hx))
      by_cases hzm : inkL n M = m
      · have HPf := Lib.hid (HPF.out (by rw [HPD.out]; exact decide_eq_false (fun h => h hzm)))
        rw [hzm] at HI3
        have ez := neq_is (rw m) (rw m) false (by rw [eqS_same]; rfl)
        go_wp2
        refine wp_calm0 (by kernel_rfl) (by kernel_rfl) ?_; intro hgr; (refine walkQ_step (fun K hK => ?_); go_simp; (try (go_ints; try go_simp)); first | (refine hK _ ?_; clear hK K) | (apply Exists.intro; refine ⟨fun _ => ?_, hK _ ?_⟩; ((go_at_call 181; exact (HI3.out _ (((Ext.refl _).drew).trans (ext_grow _ _))))); clear hK K) | (simp only [↓IntWalk.iteOmega]; (try go_simp); (try (go_ints; try go_simp)); first | (refine hK _ ?_; clear hK K) | (apply Exists.intro; refine ⟨fun _ => ?_, hK _ ?_⟩; ((go_at_call 181; exact (HI3.out _ (((Ext.refl _).drew).trans (ext_grow _ _))))); clear hK K))); (refine walkQ_step (fun K hK => ?_); go_simp; (try (go_ints; try go_simp)); first | (refine hK _ ?_; clear hK K) | (apply Exists.intro; refine ⟨fun _ => ?_, hK _ ?_⟩; ((go_at_call 181; exact (HI3.out _ (((Ext.refl _).drew).trans (ext_grow _ _))))); clear hK K) | (simp only [↓IntWalk.iteOmega]; (try go_simp); (try (go_ints; try go_simp)); first | (refine hK _ ?_; clear hK K) | (apply Exists.intro; refine ⟨fun _ => ?_, hK _ ?_⟩; ((go_at_call 181; exact (HI3.out _ (((Ext.refl _).drew).trans (ext_grow _ _))))); clear hK K))); (refine walkQ_step (fun K hK => ?_); go_simp; (try (go_ints; try go_simp)); first | (refine hK _ ?_; clear hK K) | (apply Exists.intro; refine ⟨fun _ => ?_, hK _ ?_⟩; ((go_at_call 181; exact (HI3.out _ (((Ext.refl _).drew).trans (ext_grow _ _))))); clear hK K) | (simp only [↓IntWalk.iteOmega]; (try go_simp); (try (go_ints; try go_simp)); first | (refine hK _ ?_; clear hK K) | (apply Exists.intro; refine ⟨fun _ => ?_, hK _ ?_⟩; ((go_at_call 181; exact (HI3.out _ (((Ext.refl _).drew).trans (ext_grow _ _))))); clear hK K))); (refine walkQ_step (fun K hK => ?_); go_simp; (try (go_ints; try go_simp)); first | (refine hK _ ?_; clear hK K) | (apply Exists.intro; refine ⟨fun _ => ?_, hK _ ?_⟩; ((go_at_call 181; exact (HI3.out _ (((Ext.refl _).drew).trans (ext_grow _ _))))); clear hK K) | (simp only [↓IntWalk.iteOmega]; (try go_simp); (try (go_ints; try go_simp)); first | (refine hK _ ?_; clear hK K) | (apply Exists.intro; refine ⟨fun _ => ?_, hK _ ?_⟩; ((go_at_call 181; exact (HI3.out _ (((Ext.refl _).drew).trans (ext_grow _ _))))); clear hK K))); (refine walkQ_step (fun K hK => ?_); go_simp; (try (go_ints; try go_simp)); first | (refine hK _ ?_; clear hK K) | (apply Exists.intro; refine ⟨fun _ => ?_, hK _ ?_⟩; ((go_at_call 181; exact (HI3.out _ (((Ext.refl _).drew).trans (ext_grow _ _))))); clear hK K) | (simp only [↓IntWalk.iteOmega]; (try go_simp); (try (go_ints; try go_simp)); first | (refine hK _ ?_; clear hK K) | (apply Exists.intro; refine ⟨fun _ => ?_, hK _ ?_⟩; ((go_at_call 181; exact (HI3.out _ (((Ext.refl _).drew).trans (ext_grow _ _))))); clear hK K))); refine walkQ_nil ?_; clear hgr; intro w1 hE; have hc2 := hE.cells; have hf2 := hE.frees; have hz2 := hE.size
        replace hE : Ext w3 w1 := ((Ext.refl w3).drew).trans hE
        go_wp2
        refine ⟨?_, by simp [intOf]; first | exact hdec | omega⟩
        have hx5 := HX3.out.trans hE
        refine ⟨j + 1, by omega, by go_num, hx.trans hx5, HA.out.ext hx5 za, HM.out.ext hx5 zm, ?_, own_ext HV.out hx5, HUB.out, by have := hx5.size; omega⟩
        rw [HPf.out]
        exact own_ext HU.out hx5
      · have HPt := Lib.hid (HPT.out (by rw [HPD.out]; exact decide_eq_true hzm))
        have ez := neq_is (rw (inkL n M)) (rw m) true (by rw [eqS_rw hzl hm, decide_eq_false hzm]; rfl)
        generalize inkL n M = z at *
        go_wp2
        refine wp_calm0 (by kernel_rfl) (by kernel_rfl) ?_; intro hgr; (refine walkQ_step (fun K hK => ?_); go_simp; (try (go_ints; try go_simp)); first | (refine hK _ ?_; clear hK K) | (apply Exists.intro; refine ⟨fun _ => ?_, hK _ ?_⟩; ((go_at_call 181; exact (HI3.out _ (((Ext.refl _).drew).trans (ext_grow _ _))))); clear hK K) | (simp only [↓IntWalk.iteOmega]; (try go_simp); (try (go_ints; try go_simp)); first | (refine hK _ ?_; clear hK K) | (apply Exists.intro; refine ⟨fun _ => ?_, hK _ ?_⟩; ((go_at_call 181; exact (HI3.out _ (((Ext.refl _).drew).trans (ext_grow _ _))))); clear hK K))); (refine walkQ_step (fun K hK => ?_); go_simp; (try (go_ints; try go_simp)); first | (refine hK _ ?_; clear hK K) | (apply Exists.intro; refine ⟨fun _ => ?_, hK _ ?_⟩; ((go_at_call 181; exact (HI3.out _ (((Ext.refl _).drew).trans (ext_grow _ _))))); clear hK K) | (simp only [↓IntWalk.iteOmega]; (try go_simp); (try (go_ints; try go_simp)); first | (refine hK _ ?_; clear hK K) | (apply Exists.intro; refine ⟨fun _ => ?_, hK _ ?_⟩; ((go_at_call 181; exact (HI3.out _ (((Ext.refl _).drew).trans (ext_grow _ _))))); clear hK K))); (refine walkQ_step (fun K hK => ?_); go_simp; (try (go_ints; try go_simp)); first | (refine hK _ ?_; clear hK K) | (apply Exists.intro; refine ⟨fun _ => ?_, hK _ ?_⟩; ((go_at_call 181; exact (HI3.out _ (((Ext.refl _).drew).trans (ext_grow _ _))))); clear hK K) | (simp only [↓IntWalk.iteOmega]; (try go_simp); (try (go_ints; try go_simp)); first | (refine hK _ ?_; clear hK K) | (apply Exists.intro; refine ⟨fun _ => ?_, hK _ ?_⟩; ((go_at_call 181; exact (HI3.out _ (((Ext.refl _).drew).trans (ext_grow _ _))))); clear hK K))); (refine walkQ_step (fun K hK => ?_); go_simp; (try (go_ints; try go_simp)); first | (refine hK _ ?_; clear hK K) | (apply Exists.intro; refine ⟨fun _ => ?_, hK _ ?_⟩; ((go_at_call 181; exact (HI3.out _ (((Ext.refl _).drew).trans (ext_grow _ _))))); clear hK K) | (simp only [↓IntWalk.iteOmega]; (try go_simp); (try (go_ints; try go_simp)); first | (refine hK _ ?_; clear hK K) | (apply Exists.intro; refine ⟨fun _ => ?_, hK _ ?_⟩; ((go_at_call 181; exact (HI3.out _ (((Ext.refl _).drew).trans (ext_grow _ _))))); clear hK K))); (refine walkQ_step (fun K hK => ?_); go_simp; (try (go_ints; try go_simp)); first | (refine hK _ ?_; clear hK K) | (apply Exists.intro; refine ⟨fun _ => ?_, hK _ ?_⟩; ((go_at_call 181; exact (HI3.out _ (((Ext.refl _).drew).trans (ext_grow _ _))))); clear hK K) | (simp only [↓IntWalk.iteOmega]; (try go_simp); (try (go_ints; try go_simp)); first | (refine hK _ ?_; clear hK K) | (apply Exists.intro; refine ⟨fun _ => ?_, hK _ ?_⟩; ((go_at_call 181; exact (HI3.out _ (((Ext.refl _).drew).trans (ext_grow _ _))))); clear hK K))); refine walkQ_nil ?_; clear hgr; intro w1 hE; have hc2 := hE.cells; have hf2 := hE.frees; have hz2 := hE.size
        replace hE : Ext w3 w1 := ((Ext.refl w3).drew).trans hE
        have hx5 := HX3.out.trans hE
        have hs5 := hx5.size
        have HU5 := Lib.hid (own_ext HU.out hx5)
        have HV5 := Lib.hid (own_ext HV.out hx5)
        have HA5 := Lib.hid (HA.out.ext hx5 za)
        have HM5 := Lib.hid (HM.out.ext hx5 zm)
        have p3 := (hx5.cells _ _ hvi).trans p1
        have p4 := (hx5.cells _ _ hvi).trans p2
        have hx6 := hx.trans hx5
        generalize k % 6 = kx at *
        generalize k / 6 = ky at *
        go_wp2_with (at_builtin; refine wpList_append_at (by rfl) _ _ 28 (by rfl) (w.heap.size + 2) 33 i0 (.agg #[.int .i64 0, .int .i64 0]) 2 16 Try.underlying28 hi iz0 iz1 iz2 (by rfl) (by decide) _ _ _ (by rfl) (HU5.out.alloc _) ⟨w1.heap.size, 0, none⟩ 1 1 [.int .i64 (kx : Int), .int .i64 (ky : Int)] (by rfl) (by rfl) (two_cells_at (by simp)) (by simp [Value.oneCell']) (by unfold maxLen; have := HDL.out; omega) (by have := HDL.out; omega) (by simp; omega) (by omega) ?_; intro v1 w2 hown hgrow hwh)
        have HP := Lib.hid (own_push hx6 (by omega) HU5.out hgrow)
        have hs6 := hgrow.size
        simp at hs6
        have HVN := Lib.hid (own_other (HV5.out.alloc _) hgrow (fun k hk e => by have h1 := HUB.out _ hk; have h2 := HVB.out _ e; omega))
        obtain ⟨v1o, v1c, rfl, _⟩ := own_shape hown
        refine ⟨?_, by simp [intOf]; first | exact hdec | omega⟩
        refine ⟨j + 1, by omega, by go_num, HP.out.1, HP.out.2 _ _ (by omega) (by omega) HA5.out, HP.out.2 _ _ (by omega) (by omega) HM5.out, ?_, HVN.out, fun k hk => ?_, by omega⟩
        · rw [HPt.out, List.length_append, pxy_append, Q.out]
          exact hown
        · rcases hwh with h | h
          · exact HUB.out k (h.symm.trans hk)
          · rw [hk] at h
            right
            simp at h
            omega
    · obtain rfl : j = L.length := by omega
      go_wp2
      go_returns
      exact ⟨_, rfl, hx, own_mono HU.out (by omega)⟩
end Go.Proofs.Ytadnfocbfabjnaa
