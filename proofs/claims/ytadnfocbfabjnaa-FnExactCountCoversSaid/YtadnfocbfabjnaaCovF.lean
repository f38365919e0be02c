/- CovF: contracts of functions, and lemmas, for this seat. Conditions: as each states. -/
import Derived.Test.YtadnfocbfabjnaaCovI
set_option linter.unusedVariables false
set_option maxRecDepth 100000
set_option maxHeartbeats 2000000
namespace Go.Proofs.Ytadnfocbfabjnaa
open Go Go.RowKit Instr
/-- the covers that count: as few cells as can be -/
def bst (n t : Nat) : List (List Nat) := if canP n t = true then bk (fun j => kV (pr6 n) t (fl (opP n t) 36) j 0) 0 6 else []
/-- the two boxes of the first one -/
def Box2 (c d B : Nat) (acc : List (List Nat)) (w : World) : Prop :=
  c < w.heap.size ∧ d < w.heap.size ∧ w.frozen? ⟨c, 0, none⟩ = false ∧ w.frozen? ⟨d, 0, none⟩ = false ∧ (acc = [] → w.cell? ⟨c, 0, none⟩ = some (.slice none 0 0) ∧ w.cell? ⟨d, 0, none⟩ = some (.bool false)) ∧
    ∀ L r, acc = L :: r → ∃ a cp, w.cell? ⟨c, 0, none⟩ = some (.slice a L.length cp) ∧ w.ownsRow B 3 1 (.slice a L.length cp) L.length (ints L) ∧ w.cell? ⟨d, 0, none⟩ = some (.bool true)
theorem box2_stable (c d B : Nat) (acc : List (List Nat)) (w w' : World) (h : Box2 c d B acc w) (hx : Ext w w') : Box2 c d B acc w' := by
  obtain ⟨h1, h2, h3, h4, h5, h6⟩ := h
  refine ⟨Nat.lt_of_lt_of_le h1 hx.size, Nat.lt_of_lt_of_le h2 hx.size, (hx.frees _ _ h1).trans h3, (hx.frees _ _ h2).trans h4, fun e => ⟨(hx.cells _ _ h1).trans (h5 e).1, (hx.cells _ _ h2).trans (h5 e).2⟩, fun L r e => ?_⟩
  obtain ⟨a, cp, k1, k2, k3⟩ := h6 L r e
  exact ⟨a, cp, (hx.cells _ _ h1).trans k1, own_ext k2 hx, (hx.cells _ _ h2).trans k3⟩
theorem firstCover1_n (c d B : Nat) (hcB : c < B) (hdB : d < B) (hcd : c ≠ d) (D : List Nat) (u : Value) (w : World) (hb : Box2 c d B [] w) (hu : w.ownsRow B 3 1 u D.length (ints D)) :
    Calls Try.prog 225 (#[u] ++ #[.pointer (some ⟨c, 0, none⟩), .pointer (some ⟨d, 0, none⟩)]) w fun e w' => e = .returned (.bool true) ∧ Box2 c d B ([] ++ [D]) w' ∧ Off (fun k => k = c ∨ k = d) w w' := by
  obtain ⟨h1, h2, h3, h4, h5, _⟩ := hb
  obtain ⟨k1, k2⟩ := h5 rfl
  obtain ⟨uo, uc, rfl, _⟩ := own_shape hu
  have HO := Lib.hid (show Off (fun k => k = c ∨ k = d) w ((w.setCell ⟨c, 0, none⟩ (.slice uo D.length uc)).setCell ⟨d, 0, none⟩ (.bool true)) from Off.set (S := fun k => k = c ∨ k = d) (Off.set (S := fun k => k = c ∨ k = d) (Off.refl _ _) (p := ⟨c, 0, none⟩) (.inl rfl) _) (p := ⟨d, 0, none⟩) (.inr rfl) _)
  have HB := Lib.hid (show Box2 c d B ([] ++ [D]) ((w.setCell ⟨c, 0, none⟩ (.slice uo D.length uc)).setCell ⟨d, 0, none⟩ (.bool true)) by
    refine ⟨by simp; exact h1, by simp; exact h2, by rw [World.frozen?_setCell, World.frozen?_setCell]; exact h3, by rw [World.frozen?_setCell, World.frozen?_setCell]; exact h4, fun e => by simp at e, fun L r e => ?_⟩
    simp only [List.nil_append, List.cons.injEq] at e
    obtain ⟨rfl, rfl⟩ := e
    refine ⟨uo, uc, ?_, HO.out.own hu (fun k hk => by rcases hk with rfl | rfl <;> assumption) (Nat.le_refl _), ?_⟩
    · rw [World.cell?_setCell_other _ _ _ _ (by intro e; injection e with e1; exact hcd e1.symm)]
      exact World.cell?_setCell_same _ _ _ k1
    · exact World.cell?_setCell_same _ _ _ (by rw [World.cell?_setCell_other _ _ _ _ (by intro e; injection e with e1; exact hcd e1)]; exact k2))
  have hcd2 : ¬ d = c := fun e => hcd e.symm
  clear hu h5
  go_enter Try.func225, Try.ntmps225
  go_wp2
  go_returns
  exact ⟨rfl, HB.out, HO.out⟩
theorem bk_s (K : Nat → List (List Nat)) (j n : Nat) : bk K j (n + 1) = if K j = [] then bk K (j + 1) n else K j := rfl
theorem firstCover_n (n t : Nat) (hn : n < 68719476736) (ht : t < 68719476736) (w : World) : Calls Try.prog 186 #[.int .u64 (n : Int), .int .u64 (t : Int)] w
    fun e w' => ∃ v, e = .returned (.tuple #[v, .bool (!(bst n t).isEmpty)]) ∧ Ext w w' ∧ w'.ownsRow w.heap.size 3 1 v ((bst n t).headD []).length (ints ((bst n t).headD [])) := by
  have HCI := Lib.hid (fun w => canInk_n n t hn ht w)
  have HCV := Lib.hid (fun (c d B mm : Nat) (hmm : mm ≤ 36) (hcB : c < B) (hdB : d < B) (hcd : c ≠ d) (w : World) (hB : B ≤ w.heap.size) (hk : Box2 c d B [] w) =>
    covers_n n hn t ht (fl (opP n t) 36) rfl mm hmm 225 #[.pointer (some ⟨c, 0, none⟩), .pointer (some ⟨d, 0, none⟩)] Try.call225 true (fun k => k = c ∨ k = d) (Box2 c d B) (box2_stable c d B) w (fun k hk => by rcases hk with rfl | rfl <;> omega)
      (fun acc D u w' hst _ _ hk hu => by
        have := hst rfl
        subst this
        exact firstCover1_n c d B hcB hdB hcd D u w' hk (own_mono hu hB))
      [] hk (fun _ => rfl) (by have := kV_le (pr6 n) t (fl (opP n t) 36) mm 0; have h2 := Nat.pow_le_pow_right (show 0 < 2 by omega) (fl_le (opP n t) 36); simp at h2 ⊢; omega))
  have HBS := Lib.hid (show bst n t = if canP n t = true then bk (fun j => kV (pr6 n) t (fl (opP n t) 36) j 0) 0 6 else [] from rfl)
  generalize bst n t = LB at *
  generalize canP n t = cp at *
  generalize hKK : (fun j => kV (pr6 n) t (fl (opP n t) 36) j 0) = KK at *
  have HKK := Lib.hid (fun j => (congrFun hKK j : kV (pr6 n) t (fl (opP n t) 36) j 0 = KK j))
  simp only [HKK.out] at HCV
  clear hKK HKK
  have HBK := Lib.hid (bk_s KK)
  have HKL := Lib.hid (show bk KK 6 0 = [] from rfl)
  skip
  go_enter Try.func186, Try.ntmps186
  go_wp2
  go_loopw [8] (fun i wr => ∃ (j : Nat) (acc : List (List Nat)), j ≤ 6 ∧ i = .int .i64 j ∧ Box2 w.heap.size (w.heap.size + 1) (w.heap.size + 2) acc wr ∧ Ext w wr ∧ w.heap.size + 2 ≤ wr.heap.size ∧ (acc = [] → bk KK 0 6 = bk KK j (6 - j)) ∧ ∀ L r, acc = L :: r → cp = true ∧ ∃ s, bk KK 0 6 = L :: s) (fun i _ => 6 - (intOf i).toNat)
  case atStart =>
    refine ⟨0, [], Nat.zero_le _, rfl, ⟨by first | (simp; done) | (simp; omega), by first | (simp; done) | (simp; omega), ?_, ?_, fun _ => ⟨?_, ?_⟩, fun L r e => by cases e⟩, (by (repeat' (first | (with_reducible exact Ext.refl _) | (with_reducible assumption) | (with_reducible refine Ext.alloc ?_ _) | (with_reducible refine Ext.drew ?_) | (with_reducible refine Ext.drewN ?_ _) | (with_reducible refine Ext.setCell ?_ ?_ _) | (with_reducible refine Ext.trans ?_ (by assumption)))) <;> (first | (with_reducible assumption) | omega | (simp; done) | (simp; omega))), by simp, fun _ => rfl, fun L r e => by cases e⟩
    all_goals go_simp
  case round =>
    obtain ⟨j, acc, hj, rfl, hbx, hx, hz, hac, hfo⟩ := hrel
    obtain ⟨wo, rfl⟩ : ∃ wo : World, wo = wr := ⟨_, rfl⟩
    have HBX := Lib.hid hbx
    obtain ⟨b1, b2, b3, b4, b5, b6⟩ := hbx
    cases acc with
    | cons L r =>
      obtain ⟨a, c, k1, k2, k3⟩ := b6 L r rfl
      obtain ⟨hcp, s, hs⟩ := hfo L r rfl
      have HO := Lib.hid (own_mono (B' := w.heap.size) k2 (by omega))
      have HL := Lib.hid (show LB = L :: s by rw [HBS.out, hcp, if_pos rfl, hs])
      clear b5 b6 hac hfo hs k2
      by_cases hj5 : j ≤ 5
      all_goals
        go_wp2
        refine wp_perm [(0, true), (1, true), (2, true), (3, true)] [] (by kernel_rfl) (by kernel_rfl) ?_; simp only [pickO, pickT, List.getElem?_cons_succ, List.getElem?_cons_zero]; intro hgr
        (refine walkP_step (fun K hK => ?_); go_simp; (try (go_ints; try go_simp)); first | (refine hK _ ?_; clear hK K) | (apply Exists.intro; refine ⟨fun _ => ?_, hK _ ?_⟩; (fail); clear hK K) | (simp only [↓IntWalk.iteOmega]; (try go_simp); (try (go_ints; try go_simp)); first | (refine hK _ ?_; clear hK K) | (apply Exists.intro; refine ⟨fun _ => ?_, hK _ ?_⟩; (fail); clear hK K))); (refine walkP_step (fun K hK => ?_); go_simp; (try (go_ints; try go_simp)); first | (refine hK _ ?_; clear hK K) | (apply Exists.intro; refine ⟨fun _ => ?_, hK _ ?_⟩; (fail); clear hK K) | (simp only [↓IntWalk.iteOmega]; (try go_simp); (try (go_ints; try go_simp)); first | (refine hK _ ?_; clear hK K) | (apply Exists.intro; refine ⟨fun _ => ?_, hK _ ?_⟩; (fail); clear hK K))); (refine walkP_step (fun K hK => ?_); go_simp; (try (go_ints; try go_simp)); first | (refine hK _ ?_; clear hK K) | (apply Exists.intro; refine ⟨fun _ => ?_, hK _ ?_⟩; (fail); clear hK K) | (simp only [↓IntWalk.iteOmega]; (try go_simp); (try (go_ints; try go_simp)); first | (refine hK _ ?_; clear hK K) | (apply Exists.intro; refine ⟨fun _ => ?_, hK _ ?_⟩; (fail); clear hK K))); (refine walkP_step (fun K hK => ?_); go_simp; (try (go_ints; try go_simp)); first | (refine hK _ ?_; clear hK K) | (apply Exists.intro; refine ⟨fun _ => ?_, hK _ ?_⟩; (fail); clear hK K) | (simp only [↓IntWalk.iteOmega]; (try go_simp); (try (go_ints; try go_simp)); first | (refine hK _ ?_; clear hK K) | (apply Exists.intro; refine ⟨fun _ => ?_, hK _ ?_⟩; (fail); clear hK K)))
        refine walkP_nil ?_; clear hgr; intro w1 hE _
        replace hE : Ext wo w1 := ((Ext.refl wo).drew).trans hE
        go_wp2
        go_returns
        exact ⟨_, by rw [HL.out]; rfl, hx.trans hE, by rw [HL.out]; exact own_ext HO.out hE⟩
    | nil =>
      obtain ⟨k1, k2⟩ := b5 rfl
      have HAC := Lib.hid (hac rfl)
      clear b5 b6 hac hfo
      by_cases hj5 : j ≤ 5
      · cases cp with
        | false =>
          have HL := Lib.hid (show LB = [] by rw [HBS.out]; rfl)
          go_wp2_with ((go_at_call 182; refine (HCI.out _).mono ?_; rintro e w1 ⟨rfl, hE⟩); have q1 := (hE.cells _ _ b1).trans k1; have q2 := (hE.cells _ _ b2).trans k2; have hxe := hE; have y1 := Nat.lt_of_lt_of_le b1 hE.size; have y2 := Nat.lt_of_lt_of_le b2 hE.size; obtain ⟨wa, rfl⟩ : ∃ x, x = w1 := ⟨_, rfl⟩)
          refine wp_perm [(0, true), (1, true), (2, true), (3, true)] [] (by kernel_rfl) (by kernel_rfl) ?_; simp only [pickO, pickT, List.getElem?_cons_succ, List.getElem?_cons_zero]; intro hgr
          (refine walkP_step (fun K hK => ?_); go_simp; (try (go_ints; try go_simp)); first | (refine hK _ ?_; clear hK K) | (apply Exists.intro; refine ⟨fun _ => ?_, hK _ ?_⟩; (fail); clear hK K) | (simp only [↓IntWalk.iteOmega]; (try go_simp); (try (go_ints; try go_simp)); first | (refine hK _ ?_; clear hK K) | (apply Exists.intro; refine ⟨fun _ => ?_, hK _ ?_⟩; (fail); clear hK K))); (refine walkP_step (fun K hK => ?_); go_simp; (try (go_ints; try go_simp)); first | (refine hK _ ?_; clear hK K) | (apply Exists.intro; refine ⟨fun _ => ?_, hK _ ?_⟩; (fail); clear hK K) | (simp only [↓IntWalk.iteOmega]; (try go_simp); (try (go_ints; try go_simp)); first | (refine hK _ ?_; clear hK K) | (apply Exists.intro; refine ⟨fun _ => ?_, hK _ ?_⟩; (fail); clear hK K))); (refine walkP_step (fun K hK => ?_); go_simp; (try (go_ints; try go_simp)); first | (refine hK _ ?_; clear hK K) | (apply Exists.intro; refine ⟨fun _ => ?_, hK _ ?_⟩; (fail); clear hK K) | (simp only [↓IntWalk.iteOmega]; (try go_simp); (try (go_ints; try go_simp)); first | (refine hK _ ?_; clear hK K) | (apply Exists.intro; refine ⟨fun _ => ?_, hK _ ?_⟩; (fail); clear hK K))); (refine walkP_step (fun K hK => ?_); go_simp; (try (go_ints; try go_simp)); first | (refine hK _ ?_; clear hK K) | (apply Exists.intro; refine ⟨fun _ => ?_, hK _ ?_⟩; (fail); clear hK K) | (simp only [↓IntWalk.iteOmega]; (try go_simp); (try (go_ints; try go_simp)); first | (refine hK _ ?_; clear hK K) | (apply Exists.intro; refine ⟨fun _ => ?_, hK _ ?_⟩; (fail); clear hK K)))
          refine walkP_nil ?_; clear hgr; intro w1 hE _
          replace hE : Ext wa w1 := ((Ext.refl wa).drew).trans hE
          go_wp2
          go_returns
          exact ⟨_, by rw [HL.out]; rfl, (hx.trans hxe).trans hE, by rw [HL.out]; exact World.ownsRow_nil _ _ _ _⟩
        | true =>
          have hbk := HBK.out j (5 - j)
          rw [show 5 - j + 1 = 6 - j by omega] at hbk
          have HBJ := Lib.hid hbk
          clear hbk
          go_wp2_with (first | ((go_at_call 182; refine (HCI.out _).mono ?_; rintro e w1 ⟨rfl, hE⟩); have HB1 := Lib.hid (box2_stable _ _ _ _ _ _ HBX.out hE); have hxe := hE; have hze := hE.size; obtain ⟨wa, rfl⟩ : ∃ x, x = w1 := ⟨_, rfl⟩) | (go_at_call 187; refine (HCV.out w.heap.size (w.heap.size + 1) (w.heap.size + 2) j (by omega) (by omega) (by omega) (by omega) wa (by omega) HB1.out).mono ?_; rintro e w2 ⟨r, rfl, hb2, hoff⟩))
          have hx2 := Off.ext (hx.trans hxe) hoff (fun k hk => by rcases hk with rfl | rfl <;> omega)
          have hz2 := hoff.size
          rw [List.nil_append] at hb2
          have HB2 := Lib.hid hb2
          clear hb2
          refine ⟨?_, by simp [intOf]; omega⟩
          cases hKj : KK j with
          | nil =>
            rw [hKj] at HBJ HB2
            exact ⟨j + 1, [], by omega, by go_num, HB2.out, hx2, by omega, fun _ => by rw [HAC.out, HBJ.out, if_pos rfl, show 6 - (j + 1) = 5 - j by omega], fun L r e => by cases e⟩
          | cons L s =>
            rw [hKj] at HBJ HB2
            exact ⟨j + 1, [L], by omega, by go_num, HB2.out, hx2, by omega, fun e => (by cases e), fun L' r e => by injection e with e1 e2; subst e1; exact ⟨by trivial, s, by rw [HAC.out, HBJ.out, if_neg (by simp)]⟩⟩
      · obtain rfl : j = 6 := by omega
        have HL := Lib.hid (show LB = [] by rw [HBS.out, HAC.out]; split <;> rfl)
        go_wp2
        refine wp_perm [(0, true), (1, true), (2, true), (3, true)] [] (by kernel_rfl) (by kernel_rfl) ?_; simp only [pickO, pickT, List.getElem?_cons_succ, List.getElem?_cons_zero]; intro hgr
        (refine walkP_step (fun K hK => ?_); go_simp; (try (go_ints; try go_simp)); first | (refine hK _ ?_; clear hK K) | (apply Exists.intro; refine ⟨fun _ => ?_, hK _ ?_⟩; (fail); clear hK K) | (simp only [↓IntWalk.iteOmega]; (try go_simp); (try (go_ints; try go_simp)); first | (refine hK _ ?_; clear hK K) | (apply Exists.intro; refine ⟨fun _ => ?_, hK _ ?_⟩; (fail); clear hK K))); (refine walkP_step (fun K hK => ?_); go_simp; (try (go_ints; try go_simp)); first | (refine hK _ ?_; clear hK K) | (apply Exists.intro; refine ⟨fun _ => ?_, hK _ ?_⟩; (fail); clear hK K) | (simp only [↓IntWalk.iteOmega]; (try go_simp); (try (go_ints; try go_simp)); first | (refine hK _ ?_; clear hK K) | (apply Exists.intro; refine ⟨fun _ => ?_, hK _ ?_⟩; (fail); clear hK K))); (refine walkP_step (fun K hK => ?_); go_simp; (try (go_ints; try go_simp)); first | (refine hK _ ?_; clear hK K) | (apply Exists.intro; refine ⟨fun _ => ?_, hK _ ?_⟩; (fail); clear hK K) | (simp only [↓IntWalk.iteOmega]; (try go_simp); (try (go_ints; try go_simp)); first | (refine hK _ ?_; clear hK K) | (apply Exists.intro; refine ⟨fun _ => ?_, hK _ ?_⟩; (fail); clear hK K))); (refine walkP_step (fun K hK => ?_); go_simp; (try (go_ints; try go_simp)); first | (refine hK _ ?_; clear hK K) | (apply Exists.intro; refine ⟨fun _ => ?_, hK _ ?_⟩; (fail); clear hK K) | (simp only [↓IntWalk.iteOmega]; (try go_simp); (try (go_ints; try go_simp)); first | (refine hK _ ?_; clear hK K) | (apply Exists.intro; refine ⟨fun _ => ?_, hK _ ?_⟩; (fail); clear hK K)))
        refine walkP_nil ?_; clear hgr; intro w1 hE _
        replace hE : Ext wo w1 := ((Ext.refl wo).drew).trans hE
        go_wp2
        go_returns
        exact ⟨_, by rw [HL.out]; rfl, hx.trans hE, by rw [HL.out]; exact World.ownsRow_nil _ _ _ _⟩
theorem bk_find (K : Nat → List (List Nat)) : ∀ (n j : Nat) (L : List Nat) (r : List (List Nat)), bk K j n = L :: r → ∃ i, j ≤ i ∧ i < j + n ∧ K i = L :: r
  | 0, j, L, r, h => by cases h
  | n + 1, j, L, r, h => by
    rw [bk_s] at h
    split at h
    · obtain ⟨i, h1, h2, h3⟩ := bk_find K n (j + 1) L r h
      exact ⟨i, by omega, by omega, h3⟩
    · exact ⟨j, Nat.le_refl _, by omega, h⟩
theorem bst_len {n t : Nat} {L : List Nat} {r : List (List Nat)} (h : bst n t = L :: r) : kV (pr6 n) t (fl (opP n t) 36) L.length 0 = bst n t ∧ L.length ≤ 5 ∧ ∀ k ∈ L, k < 36 := by
  have h0 := h
  unfold bst at h
  split at h
  · obtain ⟨i, h1, h2, h3⟩ := bk_find _ _ _ _ _ h
    have h3' : kV (pr6 n) t (fl (opP n t) 36) i 0 = L :: r := h3
    obtain ⟨h4, h5⟩ := kV_mem (pr6 n) t (fl (opP n t) 36) i 0 L (by rw [h3']; exact List.mem_cons_self)
    rw [h4, h0, h3']
    refine ⟨rfl, by omega, fun k hk => ?_⟩
    obtain ⟨q, hq⟩ := List.mem_iff_getElem?.1 (h5 k hk)
    exact fl_lt hq
  · cases h
theorem FirstCover_badS (r s : Nat → Int) (h : (vs r && vs s) = false) (w : World) : Calls Try.prog 104 #[(.agg #[.int .i64 (r 0), .int .i64 (r 1), .int .i64 (r 2), .int .i64 (r 3), .int .i64 (r 4), .int .i64 (r 5)]), (.agg #[.int .i64 (s 0), .int .i64 (s 1), .int .i64 (s 2), .int .i64 (s 3), .int .i64 (s 4), .int .i64 (s 5)])] w fun e w' => ∃ v, e = .returned (.tuple #[v, .bool false]) ∧ Ext w w' ∧ w'.ownsRow w.heap.size 33 2 v 0 [] := by
  have HT := Lib.hid (fun w => twoSets_is r s _ _ rfl rfl w)
  rw [h] at HT
  generalize setN r = a at *
  generalize setN s = b at *
  clear h
  skip
  go_enter Try.func104, Try.ntmps104
  go_wp2_with (go_at_call 115; refine (HT.out _).mono ?_; rintro e w1 ⟨rfl, hE⟩; replace k0_0 : w1.cell? ⟨w.heap.size, 0, none⟩ = some (.int .i64 (r 0)) := (hE.cells _ _ (by first | exact l0 | (simp; done) | (simp; omega))).trans (by first | exact k0_0 | (go_simp; done)); replace k0_1 : w1.cell? ⟨w.heap.size, 1, none⟩ = some (.int .i64 (r 1)) := (hE.cells _ _ (by first | exact l0 | (simp; done) | (simp; omega))).trans (by first | exact k0_1 | (go_simp; done)); replace k0_2 : w1.cell? ⟨w.heap.size, 2, none⟩ = some (.int .i64 (r 2)) := (hE.cells _ _ (by first | exact l0 | (simp; done) | (simp; omega))).trans (by first | exact k0_2 | (go_simp; done)); replace k0_3 : w1.cell? ⟨w.heap.size, 3, none⟩ = some (.int .i64 (r 3)) := (hE.cells _ _ (by first | exact l0 | (simp; done) | (simp; omega))).trans (by first | exact k0_3 | (go_simp; done)); replace k0_4 : w1.cell? ⟨w.heap.size, 4, none⟩ = some (.int .i64 (r 4)) := (hE.cells _ _ (by first | exact l0 | (simp; done) | (simp; omega))).trans (by first | exact k0_4 | (go_simp; done)); replace k0_5 : w1.cell? ⟨w.heap.size, 5, none⟩ = some (.int .i64 (r 5)) := (hE.cells _ _ (by first | exact l0 | (simp; done) | (simp; omega))).trans (by first | exact k0_5 | (go_simp; done)); replace k1_0 : w1.cell? ⟨w.heap.size + 1, 0, none⟩ = some (.int .i64 (s 0)) := (hE.cells _ _ (by first | exact l1 | (simp; done) | (simp; omega))).trans (by first | exact k1_0 | (go_simp; done)); replace k1_1 : w1.cell? ⟨w.heap.size + 1, 1, none⟩ = some (.int .i64 (s 1)) := (hE.cells _ _ (by first | exact l1 | (simp; done) | (simp; omega))).trans (by first | exact k1_1 | (go_simp; done)); replace k1_2 : w1.cell? ⟨w.heap.size + 1, 2, none⟩ = some (.int .i64 (s 2)) := (hE.cells _ _ (by first | exact l1 | (simp; done) | (simp; omega))).trans (by first | exact k1_2 | (go_simp; done)); replace k1_3 : w1.cell? ⟨w.heap.size + 1, 3, none⟩ = some (.int .i64 (s 3)) := (hE.cells _ _ (by first | exact l1 | (simp; done) | (simp; omega))).trans (by first | exact k1_3 | (go_simp; done)); replace k1_4 : w1.cell? ⟨w.heap.size + 1, 4, none⟩ = some (.int .i64 (s 4)) := (hE.cells _ _ (by first | exact l1 | (simp; done) | (simp; omega))).trans (by first | exact k1_4 | (go_simp; done)); replace k1_5 : w1.cell? ⟨w.heap.size + 1, 5, none⟩ = some (.int .i64 (s 5)) := (hE.cells _ _ (by first | exact l1 | (simp; done) | (simp; omega))).trans (by first | exact k1_5 | (go_simp; done)); replace l0 : w.heap.size < w1.heap.size := Nat.lt_of_lt_of_le (by first | exact l0 | (simp; done) | (simp; omega)) hE.size; replace l1 : w.heap.size + 1 < w1.heap.size := Nat.lt_of_lt_of_le (by first | exact l1 | (simp; done) | (simp; omega)) hE.size)
  go_returns
  exact ⟨_, rfl, (by (repeat' (first | (with_reducible exact Ext.refl _) | (with_reducible assumption) | (with_reducible refine Ext.alloc ?_ _) | (with_reducible refine Ext.drew ?_) | (with_reducible refine Ext.drewN ?_ _) | (with_reducible refine Ext.setCell ?_ ?_ _) | (with_reducible refine Ext.trans ?_ (by assumption)))) <;> (first | (with_reducible assumption) | omega | (simp; done) | (simp; omega))), World.ownsRow_nil _ _ _ _⟩
theorem FirstCover_ok (n m : Nat) (hn : n < 68719476736) (hm : m < 68719476736) (w : World) :
    Calls Try.prog 104 #[(.agg #[.int .i64 (rw n 0), .int .i64 (rw n 1), .int .i64 (rw n 2), .int .i64 (rw n 3), .int .i64 (rw n 4), .int .i64 (rw n 5)]), (.agg #[.int .i64 (rw m 0), .int .i64 (rw m 1), .int .i64 (rw m 2), .int .i64 (rw m 3), .int .i64 (rw m 4), .int .i64 (rw m 5)])] w fun e w' => ∃ v, e = .returned (.tuple #[v, .bool (!(bst n m).isEmpty)]) ∧ Ext w w' ∧ w'.ownsRow w.heap.size 33 2 v ((bst n m).headD []).length (pxy ((bst n m).headD [])) := by
  have HF := Lib.hid (fun w => firstCover_n n m hn hm w)
  have HB := Lib.hid (fun L r (h : bst n m = L :: r) => bst_len h)
  generalize bst n m = LB at *
  cases LB with
  | nil =>
    skip
    go_enter Try.func104, Try.ntmps104
    go_wp2_with (first | (go_at_call 115; refine (twoSets_n n m hn hm _).mono ?_; rintro e w1 ⟨rfl, hE⟩; replace k0_0 : w1.cell? ⟨w.heap.size, 0, none⟩ = some (.int .i64 (rw n 0)) := (hE.cells _ _ (by first | exact l0 | (simp; done) | (simp; omega))).trans (by first | exact k0_0 | (go_simp; done)); replace k0_1 : w1.cell? ⟨w.heap.size, 1, none⟩ = some (.int .i64 (rw n 1)) := (hE.cells _ _ (by first | exact l0 | (simp; done) | (simp; omega))).trans (by first | exact k0_1 | (go_simp; done)); replace k0_2 : w1.cell? ⟨w.heap.size, 2, none⟩ = some (.int .i64 (rw n 2)) := (hE.cells _ _ (by first | exact l0 | (simp; done) | (simp; omega))).trans (by first | exact k0_2 | (go_simp; done)); replace k0_3 : w1.cell? ⟨w.heap.size, 3, none⟩ = some (.int .i64 (rw n 3)) := (hE.cells _ _ (by first | exact l0 | (simp; done) | (simp; omega))).trans (by first | exact k0_3 | (go_simp; done)); replace k0_4 : w1.cell? ⟨w.heap.size, 4, none⟩ = some (.int .i64 (rw n 4)) := (hE.cells _ _ (by first | exact l0 | (simp; done) | (simp; omega))).trans (by first | exact k0_4 | (go_simp; done)); replace k0_5 : w1.cell? ⟨w.heap.size, 5, none⟩ = some (.int .i64 (rw n 5)) := (hE.cells _ _ (by first | exact l0 | (simp; done) | (simp; omega))).trans (by first | exact k0_5 | (go_simp; done)); replace k1_0 : w1.cell? ⟨w.heap.size + 1, 0, none⟩ = some (.int .i64 (rw m 0)) := (hE.cells _ _ (by first | exact l1 | (simp; done) | (simp; omega))).trans (by first | exact k1_0 | (go_simp; done)); replace k1_1 : w1.cell? ⟨w.heap.size + 1, 1, none⟩ = some (.int .i64 (rw m 1)) := (hE.cells _ _ (by first | exact l1 | (simp; done) | (simp; omega))).trans (by first | exact k1_1 | (go_simp; done)); replace k1_2 : w1.cell? ⟨w.heap.size + 1, 2, none⟩ = some (.int .i64 (rw m 2)) := (hE.cells _ _ (by first | exact l1 | (simp; done) | (simp; omega))).trans (by first | exact k1_2 | (go_simp; done)); replace k1_3 : w1.cell? ⟨w.heap.size + 1, 3, none⟩ = some (.int .i64 (rw m 3)) := (hE.cells _ _ (by first | exact l1 | (simp; done) | (simp; omega))).trans (by first | exact k1_3 | (go_simp; done)); replace k1_4 : w1.cell? ⟨w.heap.size + 1, 4, none⟩ = some (.int .i64 (rw m 4)) := (hE.cells _ _ (by first | exact l1 | (simp; done) | (simp; omega))).trans (by first | exact k1_4 | (go_simp; done)); replace k1_5 : w1.cell? ⟨w.heap.size + 1, 5, none⟩ = some (.int .i64 (rw m 5)) := (hE.cells _ _ (by first | exact l1 | (simp; done) | (simp; omega))).trans (by first | exact k1_5 | (go_simp; done)); replace l0 : w.heap.size < w1.heap.size := Nat.lt_of_lt_of_le (by first | exact l0 | (simp; done) | (simp; omega)) hE.size; replace l1 : w.heap.size + 1 < w1.heap.size := Nat.lt_of_lt_of_le (by first | exact l1 | (simp; done) | (simp; omega)) hE.size) | (go_at_call 186; refine (HF.out _).mono ?_; rintro e w1 ⟨v, rfl, hE, ho⟩))
    go_returns
    exact ⟨_, rfl, (by (repeat' (first | (with_reducible exact Ext.refl _) | (with_reducible assumption) | (with_reducible refine Ext.alloc ?_ _) | (with_reducible refine Ext.drew ?_) | (with_reducible refine Ext.drewN ?_ _) | (with_reducible refine Ext.setCell ?_ ?_ _) | (with_reducible refine Ext.trans ?_ (by assumption)))) <;> (first | (with_reducible assumption) | omega | (simp; done) | (simp; omega))), World.ownsRow_nil _ _ _ _⟩
  | cons L r =>
    obtain ⟨_, h5, h36⟩ := HB.out L r rfl
    have HCO := Lib.hid (fun B v w ho => cellsOf_n L (fun i k h => h36 k (List.mem_of_getElem? h)) (by omega) B v w ho)
    clear h36 HB
    skip
    go_enter Try.func104, Try.ntmps104
    go_wp2_with (first | (go_at_call 115; refine (twoSets_n n m hn hm _).mono ?_; rintro e w1 ⟨rfl, hE⟩; replace k0_0 : w1.cell? ⟨w.heap.size, 0, none⟩ = some (.int .i64 (rw n 0)) := (hE.cells _ _ (by first | exact l0 | (simp; done) | (simp; omega))).trans (by first | exact k0_0 | (go_simp; done)); replace k0_1 : w1.cell? ⟨w.heap.size, 1, none⟩ = some (.int .i64 (rw n 1)) := (hE.cells _ _ (by first | exact l0 | (simp; done) | (simp; omega))).trans (by first | exact k0_1 | (go_simp; done)); replace k0_2 : w1.cell? ⟨w.heap.size, 2, none⟩ = some (.int .i64 (rw n 2)) := (hE.cells _ _ (by first | exact l0 | (simp; done) | (simp; omega))).trans (by first | exact k0_2 | (go_simp; done)); replace k0_3 : w1.cell? ⟨w.heap.size, 3, none⟩ = some (.int .i64 (rw n 3)) := (hE.cells _ _ (by first | exact l0 | (simp; done) | (simp; omega))).trans (by first | exact k0_3 | (go_simp; done)); replace k0_4 : w1.cell? ⟨w.heap.size, 4, none⟩ = some (.int .i64 (rw n 4)) := (hE.cells _ _ (by first | exact l0 | (simp; done) | (simp; omega))).trans (by first | exact k0_4 | (go_simp; done)); replace k0_5 : w1.cell? ⟨w.heap.size, 5, none⟩ = some (.int .i64 (rw n 5)) := (hE.cells _ _ (by first | exact l0 | (simp; done) | (simp; omega))).trans (by first | exact k0_5 | (go_simp; done)); replace k1_0 : w1.cell? ⟨w.heap.size + 1, 0, none⟩ = some (.int .i64 (rw m 0)) := (hE.cells _ _ (by first | exact l1 | (simp; done) | (simp; omega))).trans (by first | exact k1_0 | (go_simp; done)); replace k1_1 : w1.cell? ⟨w.heap.size + 1, 1, none⟩ = some (.int .i64 (rw m 1)) := (hE.cells _ _ (by first | exact l1 | (simp; done) | (simp; omega))).trans (by first | exact k1_1 | (go_simp; done)); replace k1_2 : w1.cell? ⟨w.heap.size + 1, 2, none⟩ = some (.int .i64 (rw m 2)) := (hE.cells _ _ (by first | exact l1 | (simp; done) | (simp; omega))).trans (by first | exact k1_2 | (go_simp; done)); replace k1_3 : w1.cell? ⟨w.heap.size + 1, 3, none⟩ = some (.int .i64 (rw m 3)) := (hE.cells _ _ (by first | exact l1 | (simp; done) | (simp; omega))).trans (by first | exact k1_3 | (go_simp; done)); replace k1_4 : w1.cell? ⟨w.heap.size + 1, 4, none⟩ = some (.int .i64 (rw m 4)) := (hE.cells _ _ (by first | exact l1 | (simp; done) | (simp; omega))).trans (by first | exact k1_4 | (go_simp; done)); replace k1_5 : w1.cell? ⟨w.heap.size + 1, 5, none⟩ = some (.int .i64 (rw m 5)) := (hE.cells _ _ (by first | exact l1 | (simp; done) | (simp; omega))).trans (by first | exact k1_5 | (go_simp; done)); replace l0 : w.heap.size < w1.heap.size := Nat.lt_of_lt_of_le (by first | exact l0 | (simp; done) | (simp; omega)) hE.size; replace l1 : w.heap.size + 1 < w1.heap.size := Nat.lt_of_lt_of_le (by first | exact l1 | (simp; done) | (simp; omega)) hE.size) | (go_at_call 186; refine (HF.out _).mono ?_; rintro e w1 ⟨v, rfl, hE, ho⟩; have hxa : Ext w w1 := (by (repeat' (first | (with_reducible exact Ext.refl _) | (with_reducible assumption) | (with_reducible refine Ext.alloc ?_ _) | (with_reducible refine Ext.drew ?_) | (with_reducible refine Ext.drewN ?_ _) | (with_reducible refine Ext.setCell ?_ ?_ _) | (with_reducible refine Ext.trans ?_ (by assumption)))) <;> (first | (with_reducible assumption) | omega | (simp; done) | (simp; omega))); have HO := Lib.hid ho; clear ho; obtain ⟨wa, rfl⟩ : ∃ x, x = w1 := ⟨_, rfl⟩) | (go_at_call 174; refine (HCO.out _ _ _ HO.out).mono ?_; rintro e w1 ⟨u, rfl, hE2, ho2⟩))
    go_returns
    exact ⟨_, rfl, hxa.trans hE2, own_mono ho2 hxa.size⟩
def Box1c (c : Nat) (acc : List (List Nat)) (w : World) : Prop := c < w.heap.size ∧ w.cell? ⟨c, 0, none⟩ = some (.int .i64 (acc.length : Nat)) ∧ w.frozen? ⟨c, 0, none⟩ = false
theorem box1c_stable (c : Nat) (acc : List (List Nat)) (w w' : World) (h : Box1c c acc w) (hx : Ext w w') : Box1c c acc w' := ⟨Nat.lt_of_lt_of_le h.1 hx.size, (hx.cells _ _ h.1).trans h.2.1, (hx.frees _ _ h.1).trans h.2.2⟩
theorem box1c_new (w : World) : Box1c w.heap.size [] (w.alloc (.cells #[.int .i64 0] 3)) := ⟨by simp, World.cell?_alloc_at _ _ _ _ rfl, World.frozen?_alloc_at _ _ _ _ rfl⟩
theorem CountCovers1_n (c : Nat) (acc : List (List Nat)) (D : List Nat) (u : Value) (w : World) (hl : acc.length < 1099511627776) (hb : Box1c c acc w) :
    Calls Try.prog 188 (#[u] ++ #[.pointer (some ⟨c, 0, none⟩)]) w fun e w' => e = .returned (.bool false) ∧ Box1c c (acc ++ [D]) w' ∧ Off (fun k => k = c) w w' := by
  obtain ⟨h1, h2, h3⟩ := hb
  have HB := Lib.hid (show Box1c c (acc ++ [D]) (w.setCell ⟨c, 0, none⟩ (.int .i64 ((acc.length : Int) + 1))) from ⟨by simp; exact h1, by rw [World.cell?_setCell_same _ _ _ h2, List.length_append]; simp, by rw [World.frozen?_setCell]; exact h3⟩)
  have HO := Lib.hid (show Off (fun k => k = c) w (w.setCell ⟨c, 0, none⟩ (.int .i64 ((acc.length : Int) + 1))) from Off.set (S := fun k => k = c) (Off.refl _ _) (p := ⟨c, 0, none⟩) rfl _)
  go_enter Try.func188, Try.ntmps188
  go_wp2
  go_returns
  exact ⟨rfl, HB.out, HO.out⟩
theorem CountCovers_badS (r s : Nat → Int) (h : (vs r && vs s) = false) (w : World) : Calls Try.prog 102 #[(.agg #[.int .i64 (r 0), .int .i64 (r 1), .int .i64 (r 2), .int .i64 (r 3), .int .i64 (r 4), .int .i64 (r 5)]), (.agg #[.int .i64 (s 0), .int .i64 (s 1), .int .i64 (s 2), .int .i64 (s 3), .int .i64 (s 4), .int .i64 (s 5)])] w fun e w' => e = .returned (.tuple #[.int .i64 0, .bool false]) ∧ Ext w w' := by
  have HT := Lib.hid (fun w => twoSets_is r s _ _ rfl rfl w)
  rw [h] at HT
  generalize setN r = a at *
  generalize setN s = b at *
  clear h
  skip
  go_enter Try.func102, Try.ntmps102
  go_wp2_with (go_at_call 115; refine (HT.out _).mono ?_; rintro e w1 ⟨rfl, hE⟩; replace k0_0 : w1.cell? ⟨w.heap.size, 0, none⟩ = some (.int .i64 (r 0)) := (hE.cells _ _ (by first | exact l0 | (simp; done) | (simp; omega))).trans (by first | exact k0_0 | (go_simp; done)); replace k0_1 : w1.cell? ⟨w.heap.size, 1, none⟩ = some (.int .i64 (r 1)) := (hE.cells _ _ (by first | exact l0 | (simp; done) | (simp; omega))).trans (by first | exact k0_1 | (go_simp; done)); replace k0_2 : w1.cell? ⟨w.heap.size, 2, none⟩ = some (.int .i64 (r 2)) := (hE.cells _ _ (by first | exact l0 | (simp; done) | (simp; omega))).trans (by first | exact k0_2 | (go_simp; done)); replace k0_3 : w1.cell? ⟨w.heap.size, 3, none⟩ = some (.int .i64 (r 3)) := (hE.cells _ _ (by first | exact l0 | (simp; done) | (simp; omega))).trans (by first | exact k0_3 | (go_simp; done)); replace k0_4 : w1.cell? ⟨w.heap.size, 4, none⟩ = some (.int .i64 (r 4)) := (hE.cells _ _ (by first | exact l0 | (simp; done) | (simp; omega))).trans (by first | exact k0_4 | (go_simp; done)); replace k0_5 : w1.cell? ⟨w.heap.size, 5, none⟩ = some (.int .i64 (r 5)) := (hE.cells _ _ (by first | exact l0 | (simp; done) | (simp; omega))).trans (by first | exact k0_5 | (go_simp; done)); replace k1_0 : w1.cell? ⟨w.heap.size + 1, 0, none⟩ = some (.int .i64 (s 0)) := (hE.cells _ _ (by first | exact l1 | (simp; done) | (simp; omega))).trans (by first | exact k1_0 | (go_simp; done)); replace k1_1 : w1.cell? ⟨w.heap.size + 1, 1, none⟩ = some (.int .i64 (s 1)) := (hE.cells _ _ (by first | exact l1 | (simp; done) | (simp; omega))).trans (by first | exact k1_1 | (go_simp; done)); replace k1_2 : w1.cell? ⟨w.heap.size + 1, 2, none⟩ = some (.int .i64 (s 2)) := (hE.cells _ _ (by first | exact l1 | (simp; done) | (simp; omega))).trans (by first | exact k1_2 | (go_simp; done)); replace k1_3 : w1.cell? ⟨w.heap.size + 1, 3, none⟩ = some (.int .i64 (s 3)) := (hE.cells _ _ (by first | exact l1 | (simp; done) | (simp; omega))).trans (by first | exact k1_3 | (go_simp; done)); replace k1_4 : w1.cell? ⟨w.heap.size + 1, 4, none⟩ = some (.int .i64 (s 4)) := (hE.cells _ _ (by first | exact l1 | (simp; done) | (simp; omega))).trans (by first | exact k1_4 | (go_simp; done)); replace k1_5 : w1.cell? ⟨w.heap.size + 1, 5, none⟩ = some (.int .i64 (s 5)) := (hE.cells _ _ (by first | exact l1 | (simp; done) | (simp; omega))).trans (by first | exact k1_5 | (go_simp; done)); replace l0 : w.heap.size < w1.heap.size := Nat.lt_of_lt_of_le (by first | exact l0 | (simp; done) | (simp; omega)) hE.size; replace l1 : w.heap.size + 1 < w1.heap.size := Nat.lt_of_lt_of_le (by first | exact l1 | (simp; done) | (simp; omega)) hE.size)
  go_returns
  exact ⟨rfl, (by (repeat' (first | (with_reducible exact Ext.refl _) | (with_reducible assumption) | (with_reducible refine Ext.alloc ?_ _) | (with_reducible refine Ext.drew ?_) | (with_reducible refine Ext.drewN ?_ _) | (with_reducible refine Ext.setCell ?_ ?_ _) | (with_reducible refine Ext.trans ?_ (by assumption)))) <;> (first | (with_reducible assumption) | omega | (simp; done) | (simp; omega)))⟩
theorem CountCovers_ok (n m : Nat) (hn : n < 68719476736) (hm : m < 68719476736) (w : World) :
    Calls Try.prog 102 #[(.agg #[.int .i64 (rw n 0), .int .i64 (rw n 1), .int .i64 (rw n 2), .int .i64 (rw n 3), .int .i64 (rw n 4), .int .i64 (rw n 5)]), (.agg #[.int .i64 (rw m 0), .int .i64 (rw m 1), .int .i64 (rw m 2), .int .i64 (rw m 3), .int .i64 (rw m 4), .int .i64 (rw m 5)])] w fun e w' => e = .returned (.tuple #[.int .i64 ((bst n m).length : Nat), .bool (!(bst n m).isEmpty)]) ∧ Ext w w' := by
  have HF := Lib.hid (fun w => firstCover_n n m hn hm w)
  have HB := Lib.hid (fun L r (h : bst n m = L :: r) => bst_len h)
  have HC := Lib.hid (fun (c mm : Nat) (hmm : mm ≤ 36) (w : World) (hk : Box1c c [] w) =>
    covers_n n hn m hm (fl (opP n m) 36) rfl mm hmm 188 #[.pointer (some ⟨c, 0, none⟩)] Try.call188 false (fun k => k = c) (Box1c c) (box1c_stable c) w (fun k h => by rw [h]; exact hk.1)
      (fun acc D u w' _ hl _ hk _ => CountCovers1_n c acc D u w' hl hk) [] hk (fun h => by cases h) (by have := kV_le (pr6 n) m (fl (opP n m) 36) mm 0; have h2 := Nat.pow_le_pow_right (show 0 < 2 by omega) (fl_le (opP n m) 36); simp at h2 ⊢; omega))
  generalize bst n m = LB at *
  cases LB with
  | nil =>
    clear HB HC
    skip
    go_enter Try.func102, Try.ntmps102
    go_wp2_with (first | (go_at_call 115; refine (twoSets_n n m hn hm _).mono ?_; rintro e w1 ⟨rfl, hE⟩; replace k0_0 : w1.cell? ⟨w.heap.size, 0, none⟩ = some (.int .i64 (rw n 0)) := (hE.cells _ _ (by first | exact l0 | (simp; done) | (simp; omega))).trans (by first | exact k0_0 | (go_simp; done)); replace k0_1 : w1.cell? ⟨w.heap.size, 1, none⟩ = some (.int .i64 (rw n 1)) := (hE.cells _ _ (by first | exact l0 | (simp; done) | (simp; omega))).trans (by first | exact k0_1 | (go_simp; done)); replace k0_2 : w1.cell? ⟨w.heap.size, 2, none⟩ = some (.int .i64 (rw n 2)) := (hE.cells _ _ (by first | exact l0 | (simp; done) | (simp; omega))).trans (by first | exact k0_2 | (go_simp; done)); replace k0_3 : w1.cell? ⟨w.heap.size, 3, none⟩ = some (.int .i64 (rw n 3)) := (hE.cells _ _ (by first | exact l0 | (simp; done) | (simp; omega))).trans (by first | exact k0_3 | (go_simp; done)); replace k0_4 : w1.cell? ⟨w.heap.size, 4, none⟩ = some (.int .i64 (rw n 4)) := (hE.cells _ _ (by first | exact l0 | (simp; done) | (simp; omega))).trans (by first | exact k0_4 | (go_simp; done)); replace k0_5 : w1.cell? ⟨w.heap.size, 5, none⟩ = some (.int .i64 (rw n 5)) := (hE.cells _ _ (by first | exact l0 | (simp; done) | (simp; omega))).trans (by first | exact k0_5 | (go_simp; done)); replace k1_0 : w1.cell? ⟨w.heap.size + 1, 0, none⟩ = some (.int .i64 (rw m 0)) := (hE.cells _ _ (by first | exact l1 | (simp; done) | (simp; omega))).trans (by first | exact k1_0 | (go_simp; done)); replace k1_1 : w1.cell? ⟨w.heap.size + 1, 1, none⟩ = some (.int .i64 (rw m 1)) := (hE.cells _ _ (by first | exact l1 | (simp; done) | (simp; omega))).trans (by first | exact k1_1 | (go_simp; done)); replace k1_2 : w1.cell? ⟨w.heap.size + 1, 2, none⟩ = some (.int .i64 (rw m 2)) := (hE.cells _ _ (by first | exact l1 | (simp; done) | (simp; omega))).trans (by first | exact k1_2 | (go_simp; done)); replace k1_3 : w1.cell? ⟨w.heap.size + 1, 3, none⟩ = some (.int .i64 (rw m 3)) := (hE.cells _ _ (by first | exact l1 | (simp; done) | (simp; omega))).trans (by first | exact k1_3 | (go_simp; done)); replace k1_4 : w1.cell? ⟨w.heap.size + 1, 4, none⟩ = some (.int .i64 (rw m 4)) := (hE.cells _ _ (by first | exact l1 | (simp; done) | (simp; omega))).trans (by first | exact k1_4 | (go_simp; done)); replace k1_5 : w1.cell? ⟨w.heap.size + 1, 5, none⟩ = some (.int .i64 (rw m 5)) := (hE.cells _ _ (by first | exact l1 | (simp; done) | (simp; omega))).trans (by first | exact k1_5 | (go_simp; done)); replace l0 : w.heap.size < w1.heap.size := Nat.lt_of_lt_of_le (by first | exact l0 | (simp; done) | (simp; omega)) hE.size; replace l1 : w.heap.size + 1 < w1.heap.size := Nat.lt_of_lt_of_le (by first | exact l1 | (simp; done) | (simp; omega)) hE.size) | (go_at_call 186; refine (HF.out _).mono ?_; rintro e w1 ⟨v, rfl, hE, ho⟩))
    go_returns
    exact ⟨rfl, (by (repeat' (first | (with_reducible exact Ext.refl _) | (with_reducible assumption) | (with_reducible refine Ext.alloc ?_ _) | (with_reducible refine Ext.drew ?_) | (with_reducible refine Ext.drewN ?_ _) | (with_reducible refine Ext.setCell ?_ ?_ _) | (with_reducible refine Ext.trans ?_ (by assumption)))) <;> (first | (with_reducible assumption) | omega | (simp; done) | (simp; omega)))⟩
  | cons L r =>
    obtain ⟨hkv, h5, h36⟩ := HB.out L r rfl
    have HC2 := Lib.hid (fun (c : Nat) w hk => HC.out c L.length (by omega) w hk)
    rw [hkv] at HC2
    clear h36 HB HC hkv
    skip
    go_enter Try.func102, Try.ntmps102
    go_wp2_with (first | (go_at_call 115; refine (twoSets_n n m hn hm _).mono ?_; rintro e w1 ⟨rfl, hE⟩; replace k0_0 : w1.cell? ⟨w.heap.size, 0, none⟩ = some (.int .i64 (rw n 0)) := (hE.cells _ _ (by first | exact l0 | (simp; done) | (simp; omega))).trans (by first | exact k0_0 | (go_simp; done)); replace k0_1 : w1.cell? ⟨w.heap.size, 1, none⟩ = some (.int .i64 (rw n 1)) := (hE.cells _ _ (by first | exact l0 | (simp; done) | (simp; omega))).trans (by first | exact k0_1 | (go_simp; done)); replace k0_2 : w1.cell? ⟨w.heap.size, 2, none⟩ = some (.int .i64 (rw n 2)) := (hE.cells _ _ (by first | exact l0 | (simp; done) | (simp; omega))).trans (by first | exact k0_2 | (go_simp; done)); replace k0_3 : w1.cell? ⟨w.heap.size, 3, none⟩ = some (.int .i64 (rw n 3)) := (hE.cells _ _ (by first | exact l0 | (simp; done) | (simp; omega))).trans (by first | exact k0_3 | (go_simp; done)); replace k0_4 : w1.cell? ⟨w.heap.size, 4, none⟩ = some (.int .i64 (rw n 4)) := (hE.cells _ _ (by first | exact l0 | (simp; done) | (simp; omega))).trans (by first | exact k0_4 | (go_simp; done)); replace k0_5 : w1.cell? ⟨w.heap.size, 5, none⟩ = some (.int .i64 (rw n 5)) := (hE.cells _ _ (by first | exact l0 | (simp; done) | (simp; omega))).trans (by first | exact k0_5 | (go_simp; done)); replace k1_0 : w1.cell? ⟨w.heap.size + 1, 0, none⟩ = some (.int .i64 (rw m 0)) := (hE.cells _ _ (by first | exact l1 | (simp; done) | (simp; omega))).trans (by first | exact k1_0 | (go_simp; done)); replace k1_1 : w1.cell? ⟨w.heap.size + 1, 1, none⟩ = some (.int .i64 (rw m 1)) := (hE.cells _ _ (by first | exact l1 | (simp; done) | (simp; omega))).trans (by first | exact k1_1 | (go_simp; done)); replace k1_2 : w1.cell? ⟨w.heap.size + 1, 2, none⟩ = some (.int .i64 (rw m 2)) := (hE.cells _ _ (by first | exact l1 | (simp; done) | (simp; omega))).trans (by first | exact k1_2 | (go_simp; done)); replace k1_3 : w1.cell? ⟨w.heap.size + 1, 3, none⟩ = some (.int .i64 (rw m 3)) := (hE.cells _ _ (by first | exact l1 | (simp; done) | (simp; omega))).trans (by first | exact k1_3 | (go_simp; done)); replace k1_4 : w1.cell? ⟨w.heap.size + 1, 4, none⟩ = some (.int .i64 (rw m 4)) := (hE.cells _ _ (by first | exact l1 | (simp; done) | (simp; omega))).trans (by first | exact k1_4 | (go_simp; done)); replace k1_5 : w1.cell? ⟨w.heap.size + 1, 5, none⟩ = some (.int .i64 (rw m 5)) := (hE.cells _ _ (by first | exact l1 | (simp; done) | (simp; omega))).trans (by first | exact k1_5 | (go_simp; done)); replace l0 : w.heap.size < w1.heap.size := Nat.lt_of_lt_of_le (by first | exact l0 | (simp; done) | (simp; omega)) hE.size; replace l1 : w.heap.size + 1 < w1.heap.size := Nat.lt_of_lt_of_le (by first | exact l1 | (simp; done) | (simp; omega)) hE.size) | (go_at_call 186; refine (HF.out _).mono ?_; rintro e w1 ⟨v, rfl, hE, ho⟩; have hxa : Ext w w1 := (by (repeat' (first | (with_reducible exact Ext.refl _) | (with_reducible assumption) | (with_reducible refine Ext.alloc ?_ _) | (with_reducible refine Ext.drew ?_) | (with_reducible refine Ext.drewN ?_ _) | (with_reducible refine Ext.setCell ?_ ?_ _) | (with_reducible refine Ext.trans ?_ (by assumption)))) <;> (first | (with_reducible assumption) | omega | (simp; done) | (simp; omega))); obtain ⟨vo, vc, rfl, _⟩ := own_shape ho; have HBN := Lib.hid (box1c_new w1); clear ho; obtain ⟨wa, rfl⟩ : ∃ x, x = w1 := ⟨_, rfl⟩) | (go_at_call 187; refine (HC2.out wa.heap.size _ HBN.out).mono ?_; rintro e w1 ⟨r2, rfl, ⟨hb1, hb2, hb3⟩, hoff⟩; rw [List.nil_append] at hb2))
    go_returns
    exact ⟨rfl, Off.ext (hxa.alloc _) hoff (fun k hk => by subst hk; exact hxa.size)⟩
end Go.Proofs.Ytadnfocbfabjnaa
