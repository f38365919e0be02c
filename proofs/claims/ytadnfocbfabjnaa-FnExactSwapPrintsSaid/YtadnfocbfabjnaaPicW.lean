/- PicW: contracts of functions, and lemmas, for this seat. Conditions: as each states. -/
import Derived.Test.YtadnfocbfabjnaaPicE
import Derived.Test.YtadnfocbfabjnaaPicL
set_option linter.unusedVariables false
set_option maxRecDepth 100000
set_option maxHeartbeats 4000000
namespace Go.Proofs.Ytadnfocbfabjnaa
open Go Go.RowKit Instr
theorem nil_eqL : ∀ w, (binOp .eql 126 (.slice none 0 0) (.slice none 0 0)).run Try.prog w = .ok (.bool true) w := fun w => by kernel_rfl
theorem nil_neL (g n cap : Nat) : ∀ w, (binOp .eql 126 (.slice (some ⟨g, 0, none⟩) n cap) (.slice none 0 0)).run Try.prog w = .ok (.bool false) w := fun w => by kernel_rfl
theorem cloneL_n (D : List (Nat × Int)) (hl : D.length ≤ 1000) (B : Nat) (v : Value) (w : World) (ho : w.ownsRow B 134 2 v D.length (lays D)) :
    Calls Try.prog 137 #[v] w fun e w' => ∃ u, e = .returned u ∧ Ext w w' ∧ w'.ownsRow w.heap.size 134 2 u D.length (lays D) := by
  obtain ⟨i0, hi, iz0, iz1, iz2⟩ := info_parts info_lay
  have HO := Lib.hid ho
  rcases ho.2 with ⟨hv, hn⟩ | ⟨g, cap, cur, hv, hb, hg, hn, _⟩
  · clear ho
    subst hv
    have HD := Lib.hid (List.eq_nil_of_length_eq_zero hn)
    clear hn
    have he := nil_eqL
    go_enter Try.func137, Try.ntmps137
    go_wp2
    go_returns
    exact ⟨_, rfl, (by (repeat' (first | (with_reducible exact Ext.refl _) | (with_reducible assumption) | (with_reducible refine Ext.alloc ?_ _) | (with_reducible refine Ext.drew ?_) | (with_reducible refine Ext.drewN ?_ _) | (with_reducible refine Ext.setCell ?_ ?_ _) | (with_reducible refine Ext.trans ?_ (by assumption)))) <;> (first | (with_reducible assumption) | omega | (simp; done) | (simp; omega))), by rw [HD.out]; exact World.ownsRow_nil _ _ _ _⟩
  · clear ho
    subst hv
    have hgl := row_lt hg
    clear hg
    have HN := Lib.hid (show ∀ (j : Nat) (u : Value), (lays D)[j]? = some u → (w.alloc (.cells #[] 134)).cell? ((⟨g, 0, none⟩ : Addr).add j) = some u from fun j u h => by
      rw [Go.WideShapes.add_plain, Nat.zero_add]
      exact (((Ext.refl w).alloc _).cells g _ hgl).trans ((HO.out.cellAt j (by have := (List.getElem?_eq_some_iff.1 h).1; rw [lays_length] at this; omega)).trans h))
    have HE := Lib.hid (own_empty w 134 2 w.heap.size (Nat.le_refl _) rfl)
    have H1 := Lib.hid (lays_one D)
    have H2 := Lib.hid (lays_length D)
    have he := nil_neL g D.length cap
    go_enter Try.func137, Try.ntmps137
    go_wp2_with (at_builtin; refine wpList_append_own _ (by rfl) _ _ 126 (by rfl) w.heap.size 134 i0 (.agg #[.int .u64 0, .int .i64 0]) 2 16 Try.underlying126 hi iz0 iz1 iz2 (by rfl) (by decide) _ _ _ (by rfl) HE.out ⟨g, 0, none⟩ D.length cap (lays D) (by rfl) H2.out HN.out H1.out (by unfold maxLen; omega) (by omega) (by simp) ?_; intro v1 w2 hown hgrow _)
    have HX := Lib.hid (show Ext w w2 from .of (((Ext.refl w).alloc (.cells #[] 134)).below.grown hgrow (by simp) (fun k hk => by have := (HE.out.lt k hk).1; omega)))
    rw [Nat.zero_add, List.nil_append] at hown
    go_returns
    exact ⟨_, rfl, HX.out, hown⟩
def swpL {α : Type} (L : List α) (k : Nat) (a b : α) : List α := (L.set k b).set (k + 1) a
theorem lays_set (L : List (Nat × Int)) (k : Nat) (l : Nat × Int) (h : k < L.length) : lays (L.set k l) = ((lays L).set (k * 2) (.int .u64 (l.1 : Int))).set (k * 2 + 1) (.int .i64 l.2) := by
  induction L generalizing k with
  | nil => simp at h
  | cons a L ih =>
    cases k with
    | zero => rfl
    | succ k =>
      have e : lays (a :: L) = .int .u64 (a.1 : Int) :: .int .i64 a.2 :: lays L := rfl
      rw [List.set_cons_succ, show lays (a :: L.set k l) = .int .u64 (a.1 : Int) :: .int .i64 a.2 :: lays (L.set k l) from rfl, ih k (by simpa using h), e, show (k + 1) * 2 = k * 2 + 1 + 1 by omega, show k * 2 + 1 + 1 + 1 = (k * 2 + 1) + 1 + 1 by omega]
      rfl
theorem swp_map (g : Nat → Int) (n k : Nat) : ((((List.range n).set k (k + 1)).set (k + 1) k).map (layG g)) = swpL (laysG g n) k (layG g k) (layG g (k + 1)) := by
  unfold swpL laysG
  rw [List.map_set, List.map_set]
theorem swpL_length {α : Type} (L : List α) (k : Nat) (a b : α) : (swpL L k a b).length = L.length := by unfold swpL; simp
theorem SwapPrints_ok (n k : Nat) (g : Nat → Int) (hn : n ≤ 6) (hk : k + 2 ≤ n) (hg : ∀ j, j < n → prB (rowG g j) = true) (B : Nat) (v : Value) (w : World) (ho : w.ownsRow B 122 9 v n (Gl (n * 9) g)) :
    Calls Try.prog 44 #[v, .int .i64 (k : Int)] w fun e w' => e = .returned (.tuple #[.bool (eq36 (picL (laysG g n)) (picL (swpL (laysG g n) k (layG g k) (layG g (k + 1))))), .bool true]) ∧ Ext w w' := by
  have HL := Lib.hid (fun w ho => layersOf_n n g (by omega) hg B v w ho)
  have h36 : ∀ (i : Nat) (l : Nat × Int), (laysG g n)[i]? = some l → l.1 < 68719476736 := fun i l h => by
    unfold laysG at h
    rw [List.getElem?_map] at h
    obtain ⟨k, _, rfl⟩ := Option.map_eq_some_iff.1 h
    exact ownG_lt g k
  have h36s : ∀ (i : Nat) (l : Nat × Int), (swpL (laysG g n) k (layG g k) (layG g (k + 1)))[i]? = some l → l.1 < 68719476736 := fun i l h => by
    have hm := List.mem_of_getElem? h
    unfold swpL at hm
    rcases List.mem_or_eq_of_mem_set hm with hm | rfl
    · rcases List.mem_or_eq_of_mem_set hm with hm | rfl
      · obtain ⟨i, _, hi⟩ := List.getElem_of_mem hm
        exact h36 i l (by rw [← hi]; exact List.getElem?_eq_getElem _)
      · exact ownG_lt g _
    · exact ownG_lt g _
  have hga := laysG_get g n k (by omega)
  have hgb := laysG_get g n (k + 1) (by omega)
  have hlen := laysG_length g n
  have la := lays_get _ _ _ hga
  have lb := lays_get _ _ _ hgb
  have hb : decide ((n : Int) ≤ 6) = true := decide_eq_true (by omega)
  rw [hb] at HL
  have HI := Lib.hid ho
  clear ho hg hb hga hgb
  generalize laysG g n = L at *
  generalize hA : layG g k = la0 at *
  generalize hB : layG g (k + 1) = lb0 at *
  clear hA hB
  have HP := Lib.hid (fun B v w (ho : w.ownsRow B 134 2 v n (lays L)) => picture_n L h36 (by omega) B v w (by rw [hlen]; exact ho))
  have HPS := Lib.hid (fun B v w (ho : w.ownsRow B 134 2 v n (lays (swpL L k la0 lb0))) => picture_n (swpL L k la0 lb0) h36s (by rw [swpL_length]; omega) B v w (by rw [swpL_length, hlen]; exact ho))
  have HC := Lib.hid (fun B v w (ho : w.ownsRow B 134 2 v n (lays L)) => cloneL_n L (by omega) B v w (by rw [hlen]; exact ho))
  rw [hlen] at HC
  have HSW := Lib.hid (show lays (swpL L k la0 lb0) = ((((lays L).set (k * 2) (.int .u64 (lb0.1 : Int))).set (k * 2 + 1) (.int .i64 lb0.2)).set ((k + 1) * 2) (.int .u64 (la0.1 : Int))).set ((k + 1) * 2 + 1) (.int .i64 la0.2) by
    unfold swpL
    rw [lays_set _ _ _ (by rw [List.length_set]; omega), lays_set _ _ _ (by omega)])
  clear h36 h36s hlen
  obtain ⟨a1, a2⟩ := la0
  obtain ⟨b1, b2⟩ := lb0
  dsimp only at la lb HSW
  have LA := Lib.hid la
  have LB := Lib.hid lb
  clear la lb
  have heq := eqlP_is (picL L) (picL (swpL L k (a1, a2) (b1, b2))) _ rfl
  generalize eq36 (picL L) (picL (swpL L k (a1, a2) (b1, b2))) = E at *
  generalize picL L = P at *
  generalize picL (swpL L k (a1, a2) (b1, b2)) = P2 at *
  skip
  go_enter Try.func44, Try.ntmps44
  go_wp2_with (first
    | (go_at_call 133; refine (HL.out _ (own_ext HI.out (by (repeat' (first | (with_reducible exact Ext.refl _) | (with_reducible assumption) | (with_reducible refine Ext.alloc ?_ _) | (with_reducible refine Ext.drew ?_) | (with_reducible refine Ext.drewN ?_ _) | (with_reducible refine Ext.setCell ?_ ?_ _) | (with_reducible refine Ext.trans ?_ (by assumption)))) <;> (first | (with_reducible assumption) | omega | (simp; done) | (simp; omega))))).mono ?_; rintro e w1 ⟨u, rfl, hE, ho⟩; have HU := Lib.hid ho; obtain ⟨uo, uc, rfl, hush⟩ := own_shape ho; obtain ⟨ub, rfl, hub0, hub⟩ := hush (by omega); clear ho hush; obtain ⟨wp, rfl⟩ : ∃ x, x = w1 := ⟨_, rfl⟩)
    | (go_at_call 137; refine (HC.out _ _ _ HU.out).mono ?_; rintro e w1 ⟨u2, rfl, hE2, ho⟩; have HV := Lib.hid ho; obtain ⟨vo, vc, rfl, hvsh⟩ := own_shape ho; obtain ⟨vb, rfl, hvb0, hvb⟩ := hvsh (by omega); clear ho hvsh; (have p1 := (HV.out.cellAt (k * 2) (by omega)).trans LA.out.1); (have p2 := (HV.out.cellAt (k * 2 + 1) (by omega)).trans LA.out.2); (have p3 := (HV.out.cellAt ((k + 1) * 2) (by omega)).trans LB.out.1); (have p4 := (HV.out.cellAt ((k + 1) * 2 + 1) (by omega)).trans LB.out.2); (have q1 := HV.out.frozenAt (k * 2)); (have q2 := HV.out.frozenAt (k * 2 + 1)); (have q3 := HV.out.frozenAt ((k + 1) * 2)); (have q4 := HV.out.frozenAt ((k + 1) * 2 + 1)); obtain ⟨wq, rfl⟩ : ∃ x, x = w1 := ⟨_, rfl⟩))
  go_region
  obtain ⟨wx, hwx⟩ : ∃ x, x = ((((wq.setCell ⟨vb, k * 2, none⟩ (.int .u64 (b1 : Int))).setCell ⟨vb, k * 2 + 1, none⟩ (.int .i64 b2)).setCell ⟨vb, (k + 1) * 2, none⟩ (.int .u64 (a1 : Int))).setCell ⟨vb, (k + 1) * 2 + 1, none⟩ (.int .i64 a2)).drew := ⟨_, rfl⟩
  have hXP : Ext wp wx := by rw [hwx]; exact ((((hE2.setCell hvb0 _).setCell hvb0 _).setCell hvb0 _).setCell hvb0 _).drew
  have HUX := Lib.hid (own_ext HU.out hXP)
  have HVX := Lib.hid (show wx.ownsRow wp.heap.size 134 2 (.slice (some ⟨vb, 0, none⟩) n vc) n (lays (swpL L k (a1, a2) (b1, b2))) by
    rw [HSW.out, hwx]
    exact own_ext ((((HV.out.stored (k * 2) (.int .u64 (b1 : Int))).1.stored (k * 2 + 1) (.int .i64 b2)).1.stored ((k + 1) * 2) (.int .u64 (a1 : Int))).1.stored ((k + 1) * 2 + 1) (.int .i64 a2)).1 ((Ext.refl _).drew))
  have hXW : Ext w wx := Ext.trans ((by (repeat' (first | (with_reducible exact Ext.refl _) | (with_reducible assumption) | (with_reducible refine Ext.alloc ?_ _) | (with_reducible refine Ext.drew ?_) | (with_reducible refine Ext.drewN ?_ _) | (with_reducible refine Ext.setCell ?_ ?_ _) | (with_reducible refine Ext.trans ?_ (by assumption)))) <;> (first | (with_reducible assumption) | omega | (simp; done) | (simp; omega))) : Ext w wp) hXP
  rw [← hwx]
  clear hwx hXP p1 p2 p3 p4 q1 q2 q3 q4 HV HU hE2
  have tk0 := Lib.hid True.intro
  go_wp2_with (first
    | (clear tk0; (go_at_call 134; refine (HP.out _ _ _ HUX.out).mono ?_; rintro e w1 ⟨rfl, hE⟩; have HVY := Lib.hid (own_ext HVX.out hE); have hXY := hXW.trans hE; obtain ⟨wy, rfl⟩ : ∃ x, x = w1 := ⟨_, rfl⟩))
    | (go_at_call 134; refine (HPS.out _ _ _ HVY.out).mono ?_; rintro e w1 ⟨rfl, hE⟩))
  go_returns
  exact ⟨rfl, (by (repeat' (first | (with_reducible exact Ext.refl _) | (with_reducible assumption) | (with_reducible refine Ext.alloc ?_ _) | (with_reducible refine Ext.drew ?_) | (with_reducible refine Ext.drewN ?_ _) | (with_reducible refine Ext.setCell ?_ ?_ _) | (with_reducible refine Ext.trans ?_ (by assumption)))) <;> (first | (with_reducible assumption) | omega | (simp; done) | (simp; omega)))⟩
theorem SwapPrints_out (n : Nat) (i : Int) (g : Nat → Int) (hn : n ≤ 1048576) (hb : -9223372036854775808 ≤ i ∧ i ≤ 9223372036854775807) (hi : 6 < n ∨ ¬ (0 ≤ i ∧ i ≤ (n : Int) - 2)) (hg : ∀ j, j < n → prB (rowG g j) = true) (B : Nat) (v : Value) (w : World) (ho : w.ownsRow B 122 9 v n (Gl (n * 9) g)) :
    Calls Try.prog 44 #[v, .int .i64 i] w fun e w' => e = .returned (.tuple #[.bool false, .bool false]) ∧ Ext w w' := by
  have HL := Lib.hid (fun w ho => layersOf_n n g hn hg B v w ho)
  have HI := Lib.hid ho
  clear ho hg
  by_cases h6 : n ≤ 6
  · have hd : decide ((n : Int) ≤ 6) = true := decide_eq_true (by omega)
    rw [hd] at HL
    by_cases h0 : i < 0
    · skip
      go_enter Try.func44, Try.ntmps44
      go_wp2_with (go_at_call 133; refine (HL.out _ (own_ext HI.out (by (repeat' (first | (with_reducible exact Ext.refl _) | (with_reducible assumption) | (with_reducible refine Ext.alloc ?_ _) | (with_reducible refine Ext.drew ?_) | (with_reducible refine Ext.drewN ?_ _) | (with_reducible refine Ext.setCell ?_ ?_ _) | (with_reducible refine Ext.trans ?_ (by assumption)))) <;> (first | (with_reducible assumption) | omega | (simp; done) | (simp; omega))))).mono ?_; rintro e w1 ⟨u, rfl, hE, ho⟩; obtain ⟨uo, uc, rfl, _⟩ := own_shape ho; clear ho)
      go_returns
      exact ⟨rfl, (by (repeat' (first | (with_reducible exact Ext.refl _) | (with_reducible assumption) | (with_reducible refine Ext.alloc ?_ _) | (with_reducible refine Ext.drew ?_) | (with_reducible refine Ext.drewN ?_ _) | (with_reducible refine Ext.setCell ?_ ?_ _) | (with_reducible refine Ext.trans ?_ (by assumption)))) <;> (first | (with_reducible assumption) | omega | (simp; done) | (simp; omega)))⟩
    · have h2 : (n : Int) - 2 < i := by omega
      skip
      go_enter Try.func44, Try.ntmps44
      go_wp2_with (go_at_call 133; refine (HL.out _ (own_ext HI.out (by (repeat' (first | (with_reducible exact Ext.refl _) | (with_reducible assumption) | (with_reducible refine Ext.alloc ?_ _) | (with_reducible refine Ext.drew ?_) | (with_reducible refine Ext.drewN ?_ _) | (with_reducible refine Ext.setCell ?_ ?_ _) | (with_reducible refine Ext.trans ?_ (by assumption)))) <;> (first | (with_reducible assumption) | omega | (simp; done) | (simp; omega))))).mono ?_; rintro e w1 ⟨u, rfl, hE, ho⟩; obtain ⟨uo, uc, rfl, _⟩ := own_shape ho; clear ho)
      go_returns
      exact ⟨rfl, (by (repeat' (first | (with_reducible exact Ext.refl _) | (with_reducible assumption) | (with_reducible refine Ext.alloc ?_ _) | (with_reducible refine Ext.drew ?_) | (with_reducible refine Ext.drewN ?_ _) | (with_reducible refine Ext.setCell ?_ ?_ _) | (with_reducible refine Ext.trans ?_ (by assumption)))) <;> (first | (with_reducible assumption) | omega | (simp; done) | (simp; omega)))⟩
  · have hd : decide ((n : Int) ≤ 6) = false := decide_eq_false (by omega)
    rw [hd] at HL
    skip
    go_enter Try.func44, Try.ntmps44
    go_wp2_with (go_at_call 133; refine (HL.out _ (own_ext HI.out (by (repeat' (first | (with_reducible exact Ext.refl _) | (with_reducible assumption) | (with_reducible refine Ext.alloc ?_ _) | (with_reducible refine Ext.drew ?_) | (with_reducible refine Ext.drewN ?_ _) | (with_reducible refine Ext.setCell ?_ ?_ _) | (with_reducible refine Ext.trans ?_ (by assumption)))) <;> (first | (with_reducible assumption) | omega | (simp; done) | (simp; omega))))).mono ?_; rintro e w1 ⟨u, rfl, hE, ho⟩; obtain ⟨uo, uc, rfl, _⟩ := own_shape ho; clear ho)
    go_returns
    exact ⟨rfl, (by (repeat' (first | (with_reducible exact Ext.refl _) | (with_reducible assumption) | (with_reducible refine Ext.alloc ?_ _) | (with_reducible refine Ext.drew ?_) | (with_reducible refine Ext.drewN ?_ _) | (with_reducible refine Ext.setCell ?_ ?_ _) | (with_reducible refine Ext.trans ?_ (by assumption)))) <;> (first | (with_reducible assumption) | omega | (simp; done) | (simp; omega)))⟩
theorem SwapPrints_bad (n j0 : Nat) (i : Int) (g : Nat → Int) (hn : n ≤ 1048576) (hb : -9223372036854775808 ≤ i ∧ i ≤ 9223372036854775807) (hj0 : j0 < n) (hg : ∀ j, j < j0 → prB (rowG g j) = true) (hb0 : prB (rowG g j0) = false) (B : Nat) (v : Value) (w : World) (ho : w.ownsRow B 122 9 v n (Gl (n * 9) g)) :
    Calls Try.prog 44 #[v, .int .i64 i] w fun e w' => e = .returned (.tuple #[.bool false, .bool false]) ∧ Ext w w' := by
  have HL := Lib.hid (fun w ho => layersOf_bad n j0 g hn hj0 hg hb0 B v w ho)
  have HI := Lib.hid ho
  clear ho hg hb0
  skip
  go_enter Try.func44, Try.ntmps44
  go_wp2_with (go_at_call 133; refine (HL.out _ (own_ext HI.out (by (repeat' (first | (with_reducible exact Ext.refl _) | (with_reducible assumption) | (with_reducible refine Ext.alloc ?_ _) | (with_reducible refine Ext.drew ?_) | (with_reducible refine Ext.drewN ?_ _) | (with_reducible refine Ext.setCell ?_ ?_ _) | (with_reducible refine Ext.trans ?_ (by assumption)))) <;> (first | (with_reducible assumption) | omega | (simp; done) | (simp; omega))))).mono ?_; rintro e w1 ⟨rfl, hE⟩)
  go_returns
  exact ⟨rfl, (by (repeat' (first | (with_reducible exact Ext.refl _) | (with_reducible assumption) | (with_reducible refine Ext.alloc ?_ _) | (with_reducible refine Ext.drew ?_) | (with_reducible refine Ext.drewN ?_ _) | (with_reducible refine Ext.setCell ?_ ?_ _) | (with_reducible refine Ext.trans ?_ (by assumption)))) <;> (first | (with_reducible assumption) | omega | (simp; done) | (simp; omega)))⟩
theorem sSwapPrints_bad (n j0 : Nat) (i : Int) (g : Nat → Int) (hn : n ≤ 1048576) (hj0 : j0 < n) (hg : ∀ j, j < j0 → prB (rowG g j) = true) (hb0 : 6 < j0 ∨ prB (rowG g j0) = false ∨ 6 < n) (B : Nat) (v : Value) (w : World) (ho : w.ownsRow B 122 9 v n (Gl (n * 9) g)) :
    Calls Try.prog 43 #[v, .int .i64 i] w fun e w' => e = .returned (.tuple #[.bool false, .bool false]) ∧ Ext w w' := by
  have HL := Lib.hid (fun w ho => l8List_bad n j0 g hn hj0 hg hb0 B v w ho)
  have HI := Lib.hid ho
  clear ho hg hb0
  skip
  go_enter Try.func43, Try.ntmps43
  go_wp2_with (go_at_call 129; refine (HL.out _ (own_ext HI.out (by (repeat' (first | (with_reducible exact Ext.refl _) | (with_reducible assumption) | (with_reducible refine Ext.alloc ?_ _) | (with_reducible refine Ext.drew ?_) | (with_reducible refine Ext.drewN ?_ _) | (with_reducible refine Ext.setCell ?_ ?_ _) | (with_reducible refine Ext.trans ?_ (by assumption)))) <;> (first | (with_reducible assumption) | omega | (simp; done) | (simp; omega))))).mono ?_; rintro e w1 ⟨rfl, hE⟩)
  go_returns
  exact ⟨rfl, (by (repeat' (first | (with_reducible exact Ext.refl _) | (with_reducible assumption) | (with_reducible refine Ext.alloc ?_ _) | (with_reducible refine Ext.drew ?_) | (with_reducible refine Ext.drewN ?_ _) | (with_reducible refine Ext.setCell ?_ ?_ _) | (with_reducible refine Ext.trans ?_ (by assumption)))) <;> (first | (with_reducible assumption) | omega | (simp; done) | (simp; omega)))⟩
theorem sSwapPrints_out (n : Nat) (i : Int) (g : Nat → Int) (hn : n ≤ 6) (hi : inR i 0 ((n : Int) - 2) = false) (hg : ∀ j, j < n → prB (rowG g j) = true) (B : Nat) (v : Value) (w : World) (ho : w.ownsRow B 122 9 v n (Gl (n * 9) g)) :
    Calls Try.prog 43 #[v, .int .i64 i] w fun e w' => e = .returned (.tuple #[.bool false, .bool false]) ∧ Ext w w' := by
  have HL := Lib.hid (fun w ho => l8List_n n g hn hg B v w ho)
  have HN := Lib.hid (fun w => l1In_is i 0 ((n : Int) - 2) _ hi w)
  obtain ⟨ao, cap, rfl, _⟩ := own_shape ho
  have HI := Lib.hid ho
  clear ho hg hi
  skip
  go_enter Try.func43, Try.ntmps43
  go_wp2_with (first | (go_at_call 129; refine (HL.out _ (own_ext HI.out (by (repeat' (first | (with_reducible exact Ext.refl _) | (with_reducible assumption) | (with_reducible refine Ext.alloc ?_ _) | (with_reducible refine Ext.drew ?_) | (with_reducible refine Ext.drewN ?_ _) | (with_reducible refine Ext.setCell ?_ ?_ _) | (with_reducible refine Ext.trans ?_ (by assumption)))) <;> (first | (with_reducible assumption) | omega | (simp; done) | (simp; omega))))).mono ?_; rintro e w1 ⟨rfl, hE⟩) | (go_at_call 126; refine (HN.out _).mono ?_; rintro e w' ⟨rfl, rfl⟩))
  go_returns
  exact ⟨rfl, (by (repeat' (first | (with_reducible exact Ext.refl _) | (with_reducible assumption) | (with_reducible refine Ext.alloc ?_ _) | (with_reducible refine Ext.drew ?_) | (with_reducible refine Ext.drewN ?_ _) | (with_reducible refine Ext.setCell ?_ ?_ _) | (with_reducible refine Ext.trans ?_ (by assumption)))) <;> (first | (with_reducible assumption) | omega | (simp; done) | (simp; omega)))⟩
theorem ints_set (L : List Nat) (k x : Nat) : ints (L.set k x) = (ints L).set k (.int .i64 (x : Int)) := by unfold ints; rw [List.map_set]
theorem sSwapPrints_ok (n k : Nat) (g : Nat → Int) (hn : n ≤ 6) (hk : k + 2 ≤ n) (hg : ∀ j, j < n → prB (rowG g j) = true) (B : Nat) (v : Value) (w : World) (ho : w.ownsRow B 122 9 v n (Gl (n * 9) g)) :
    Calls Try.prog 43 #[v, .int .i64 (k : Int)] w fun e w' => e = .returned (.tuple #[.bool (eq36 (picL (swpL (laysG g n) k (layG g k) (layG g (k + 1)))) (picL (laysG g n))), .bool true]) ∧ Ext w w' := by
  have HL := Lib.hid (fun w ho => l8List_n n g hn hg B v w ho)
  have HN := Lib.hid (fun w => l1In_is (k : Int) 0 ((n : Int) - 2) true ((inR_iff _ _ _).2 ⟨by omega, by omega⟩) w)
  have HP := Lib.hid (fun w => l8Plain_n n (by omega) w)
  have HA := Lib.hid (fun C u w (hu : w.ownsRow C 3 1 u n (ints (List.range n))) ho => l8All_n n g (by omega) hg (List.range n) (by simp; omega) (fun i k h => List.mem_range.1 (List.mem_of_getElem? h)) B C v u w ho (by rw [List.length_range]; exact hu))
  have HB := Lib.hid (fun C u w (hu : w.ownsRow C 3 1 u n (ints (((List.range n).set k (k + 1)).set (k + 1) k))) ho => l8All_n n g (by omega) hg (((List.range n).set k (k + 1)).set (k + 1) k) (by simp; omega) (fun i j h => by
    rcases List.mem_or_eq_of_mem_set (List.mem_of_getElem? h) with hm | rfl
    · rcases List.mem_or_eq_of_mem_set hm with hm | rfl
      · exact List.mem_range.1 hm
      · omega
    · omega) B C v u w ho (by rw [List.length_set, List.length_set, List.length_range]; exact hu))
  rw [show (List.range n).map (layG g) = laysG g n from rfl] at HA
  rw [swp_map g n k, ints_set, ints_set] at HB
  obtain ⟨ao, cap, rfl, _⟩ := own_shape ho
  have HI := Lib.hid ho
  clear ho hg
  have heq := eqlP_is (picL (swpL (laysG g n) k (layG g k) (layG g (k + 1)))) (picL (laysG g n)) _ rfl
  generalize eq36 (picL (swpL (laysG g n) k (layG g k) (layG g (k + 1)))) (picL (laysG g n)) = E at *
  generalize picL (swpL (laysG g n) k (layG g k) (layG g (k + 1))) = P2 at *
  generalize picL (laysG g n) = P at *
  skip
  have tk0 := Lib.hid True.intro
  go_enter Try.func43, Try.ntmps43
  go_wp2_with (first
    | (go_at_call 129; refine (HL.out _ (own_ext HI.out (by (repeat' (first | (with_reducible exact Ext.refl _) | (with_reducible assumption) | (with_reducible refine Ext.alloc ?_ _) | (with_reducible refine Ext.drew ?_) | (with_reducible refine Ext.drewN ?_ _) | (with_reducible refine Ext.setCell ?_ ?_ _) | (with_reducible refine Ext.trans ?_ (by assumption)))) <;> (first | (with_reducible assumption) | omega | (simp; done) | (simp; omega))))).mono ?_; rintro e w1 ⟨rfl, hE⟩)
    | (go_at_call 126; refine (HN.out _).mono ?_; rintro e w' ⟨rfl, rfl⟩)
    | (go_at_call 131; refine (HP.out _).mono ?_; rintro e w1 ⟨u, rfl, hE, ho⟩; have HU := Lib.hid ho; obtain ⟨uo, uc, rfl, hush⟩ := own_shape ho; obtain ⟨ub, rfl, hub0, hub⟩ := hush (by omega); clear ho hush; obtain ⟨wp, rfl⟩ : ∃ x, x = w1 := ⟨_, rfl⟩)
    | (clear tk0; (go_at_call 130; refine (HA.out _ _ _ HU.out (own_ext HI.out (by (repeat' (first | (with_reducible exact Ext.refl _) | (with_reducible assumption) | (with_reducible refine Ext.alloc ?_ _) | (with_reducible refine Ext.drew ?_) | (with_reducible refine Ext.drewN ?_ _) | (with_reducible refine Ext.setCell ?_ ?_ _) | (with_reducible refine Ext.trans ?_ (by assumption)))) <;> (first | (with_reducible assumption) | omega | (simp; done) | (simp; omega))))).mono ?_; rintro e w1 ⟨rfl, hE2⟩; obtain ⟨wq, rfl⟩ : ∃ x, x = w1 := ⟨_, rfl⟩))
    | (refine wpList_alloc_av rfl (makesIP rfl) ?_; (try go_simp))
    | ((refine wpList_store_new rfl rfl rfl rfl (b := wq.heap.size) (Big.new wq 57 36 (fun _ => 0) rfl) (szz6 _ _ _) (szIP _) (av_one _ _) ?_; intro w1 hO hN; (try go_simp)); have hE3 : Ext wq w1 := hO.ext (by (repeat' (first | (with_reducible exact Ext.refl _) | (with_reducible assumption) | (with_reducible refine Ext.alloc ?_ _) | (with_reducible refine Ext.drew ?_) | (with_reducible refine Ext.drewN ?_ _) | (with_reducible refine Ext.setCell ?_ ?_ _) | (with_reducible refine Ext.trans ?_ (by assumption)))) <;> (first | (with_reducible assumption) | omega | (simp; done) | (simp; omega))) (by omega); have HPB := Lib.hid (show Big w1 wq.heap.size 57 36 P from hN); clear hO hN;      (have HU1 := Lib.hid (own_ext (own_ext HU.out hE2) hE3));      (have p1 := (HU1.out.cellAt k (by omega)).trans (ints_get (List.range n) k k (List.getElem?_range (by omega))));      (have q1 := HU1.out.frozenAt k);      (have p2 := (HU1.out.cellAt (k + 1) (by omega)).trans (ints_get (List.range n) (k + 1) (k + 1) (List.getElem?_range (by omega))));      (have q2 := HU1.out.frozenAt (k + 1));      (have hsz3 := hE3.size);      obtain ⟨wr, rfl⟩ : ∃ x, x = w1 := ⟨_, rfl⟩))
  obtain ⟨wx, hwx⟩ : ∃ x, x = (wr.setCell ⟨ub, k, none⟩ (.int .i64 ((k : Int) + 1))).setCell ⟨ub, k + 1, none⟩ (.int .i64 (k : Int)) := ⟨_, rfl⟩
  have hxr : Ext wp wr := hE2.trans hE3
  have hub0w : w.heap.size ≤ ub := Nat.le_trans ((by (repeat' (first | (with_reducible exact Ext.refl _) | (with_reducible assumption) | (with_reducible refine Ext.alloc ?_ _) | (with_reducible refine Ext.drew ?_) | (with_reducible refine Ext.drewN ?_ _) | (with_reducible refine Ext.setCell ?_ ?_ _) | (with_reducible refine Ext.trans ?_ (by assumption)))) <;> (first | (with_reducible assumption) | omega | (simp; done) | (simp; omega))) : Ext w w1).size hub0
  have hsq := hE2.size
  have hXP : Ext w wx := by rw [hwx]; exact ((Ext.trans ((by (repeat' (first | (with_reducible exact Ext.refl _) | (with_reducible assumption) | (with_reducible refine Ext.alloc ?_ _) | (with_reducible refine Ext.drew ?_) | (with_reducible refine Ext.drewN ?_ _) | (with_reducible refine Ext.setCell ?_ ?_ _) | (with_reducible refine Ext.trans ?_ (by assumption)))) <;> (first | (with_reducible assumption) | omega | (simp; done) | (simp; omega))) : Ext w wp) hxr).setCell hub0w _).setCell hub0w _
  have HPX := Lib.hid (show Big wx wq.heap.size 57 36 P by
    rw [hwx]
    exact (HPB.out.far (p := ⟨ub, k, none⟩) (by dsimp only; omega) _).far (p := ⟨ub, k + 1, none⟩) (by dsimp only; omega) _)
  have HVX := Lib.hid (show wx.ownsRow w1.heap.size 3 1 (.slice (some ⟨ub, 0, none⟩) n uc) n (((ints (List.range n)).set k (.int .i64 ((k + 1 : Nat) : Int))).set (k + 1) (.int .i64 (k : Int))) by
    rw [hwx]
    exact ((HU1.out.stored k (.int .i64 ((k + 1 : Nat) : Int))).1.stored (k + 1) (.int .i64 (k : Int))).1)
  have HIX := Lib.hid (own_ext HI.out hXP)
  rw [← hwx]
  clear hwx p1 q1 p2 q2 HU1 HPB
  refine wp_calm 5 0 (fun _ => (#[], 0)) (by kernel_rfl) (by kernel_rfl) ?_; simp only [List.take_succ_cons, List.take_zero, List.drop_succ_cons, List.drop_zero]; intro hgr; (refine walkQ_step (fun K hK => ?_); go_simp; (try (go_ints; try go_simp)); first | (refine hK _ ?_; clear hK K) | (apply Exists.intro; refine ⟨fun _ => ?_, hK _ ?_⟩; ((go_at_call 130; exact (HB.out _ _ _ (own_ext HVX.out (((Ext.refl _).drew).trans (ext_grow _ _))) (own_ext HIX.out (((Ext.refl _).drew).trans (ext_grow _ _)))))); clear hK K) | (simp only [↓IntWalk.iteOmega]; (try go_simp); (try (go_ints; try go_simp)); first | (refine hK _ ?_; clear hK K) | (apply Exists.intro; refine ⟨fun _ => ?_, hK _ ?_⟩; ((go_at_call 130; exact (HB.out _ _ _ (own_ext HVX.out (((Ext.refl _).drew).trans (ext_grow _ _))) (own_ext HIX.out (((Ext.refl _).drew).trans (ext_grow _ _)))))); clear hK K))); (refine walkQ_step (fun K hK => ?_); go_simp; (try (go_ints; try go_simp)); first | (refine hK _ ?_; clear hK K) | (apply Exists.intro; refine ⟨fun _ => ?_, hK _ ?_⟩; ((go_at_call 130; exact (HB.out _ _ _ (own_ext HVX.out (((Ext.refl _).drew).trans (ext_grow _ _))) (own_ext HIX.out (((Ext.refl _).drew).trans (ext_grow _ _)))))); clear hK K) | (simp only [↓IntWalk.iteOmega]; (try go_simp); (try (go_ints; try go_simp)); first | (refine hK _ ?_; clear hK K) | (apply Exists.intro; refine ⟨fun _ => ?_, hK _ ?_⟩; ((go_at_call 130; exact (HB.out _ _ _ (own_ext HVX.out (((Ext.refl _).drew).trans (ext_grow _ _))) (own_ext HIX.out (((Ext.refl _).drew).trans (ext_grow _ _)))))); clear hK K))); (refine walkQ_step (fun K hK => ?_); go_simp; (try (go_ints; try go_simp)); first | (refine hK _ ?_; clear hK K) | (apply Exists.intro; refine ⟨fun _ => ?_, hK _ ?_⟩; ((go_at_call 130; exact (HB.out _ _ _ (own_ext HVX.out (((Ext.refl _).drew).trans (ext_grow _ _))) (own_ext HIX.out (((Ext.refl _).drew).trans (ext_grow _ _)))))); clear hK K) | (simp only [↓IntWalk.iteOmega]; (try go_simp); (try (go_ints; try go_simp)); first | (refine hK _ ?_; clear hK K) | (apply Exists.intro; refine ⟨fun _ => ?_, hK _ ?_⟩; ((go_at_call 130; exact (HB.out _ _ _ (own_ext HVX.out (((Ext.refl _).drew).trans (ext_grow _ _))) (own_ext HIX.out (((Ext.refl _).drew).trans (ext_grow _ _)))))); clear hK K))); (refine walkQ_load_big (b := wq.heap.size) rfl rfl rfl (HPX.out.ext (Ext.refl wx).drew) (fun w h => h.loadIP) ?_); (refine walkQ_step (fun K hK => ?_); go_simp; (try (go_ints; try go_simp)); first | (refine hK _ ?_; clear hK K) | (apply Exists.intro; refine ⟨fun _ => ?_, hK _ ?_⟩; ((go_at_call 130; exact (HB.out _ _ _ (own_ext HVX.out (((Ext.refl _).drew).trans (ext_grow _ _))) (own_ext HIX.out (((Ext.refl _).drew).trans (ext_grow _ _)))))); clear hK K) | (simp only [↓IntWalk.iteOmega]; (try go_simp); (try (go_ints; try go_simp)); first | (refine hK _ ?_; clear hK K) | (apply Exists.intro; refine ⟨fun _ => ?_, hK _ ?_⟩; ((go_at_call 130; exact (HB.out _ _ _ (own_ext HVX.out (((Ext.refl _).drew).trans (ext_grow _ _))) (own_ext HIX.out (((Ext.refl _).drew).trans (ext_grow _ _)))))); clear hK K))); refine walkQ_nil ?_; clear hgr; refine walkF_nil ?_; intro w1 hE _; have hc2 := hE.cells; have hf2 := hE.frees; have hz2 := hE.size
  replace hE : Ext wx w1 := ((Ext.refl wx).drew).trans hE
  go_wp2
  go_returns
  exact ⟨rfl, hXP.trans hE⟩
end Go.Proofs.Ytadnfocbfabjnaa
