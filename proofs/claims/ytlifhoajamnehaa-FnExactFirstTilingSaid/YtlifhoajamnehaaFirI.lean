/- FirI: contracts of functions, and lemmas, for this seat. Conditions: as each states. -/
import Derived.Test.YtlifhoajamnehaaFirT
set_option linter.unusedVariables false
set_option maxRecDepth 100000
set_option maxHeartbeats 4000000
namespace Go.Proofs.Ytlifhoajamnehaa
open Go Go.RowKit Instr
/-- the boxes of 'best' (c) and 'found' (c + 1) -/
def FBox (c : Nat) (acc : List (List Nat)) (w : World) : Prop :=
  c + 1 < w.heap.size ∧ w.frozen? ⟨c, 0, none⟩ = false ∧ w.frozen? ⟨c + 1, 0, none⟩ = false ∧ ∃ (v : Value) (b : Option (List Nat)), w.cell? ⟨c, 0, none⟩ = some v ∧ w.cell? ⟨c + 1, 0, none⟩ = some (.bool b.isSome) ∧ Lst1 (acc.map srt) b ∧ w.ownsRow (c + 2) 3 1 v (b.getD []).length (ints (b.getD [])) ∧ (b.getD []).length ≤ 36
theorem fbox_stable (c : Nat) (acc : List (List Nat)) (w w' : World) (h : FBox c acc w) (hx : Ext w w') : FBox c acc w' := by
  obtain ⟨z, f0, f1, v, b, c0, c1, hl, hv, hn⟩ := h
  exact ⟨Nat.lt_of_lt_of_le z hx.size, (hx.frees _ _ (by omega)).trans f0, (hx.frees _ _ z).trans f1, v, b, (hx.cells _ _ (by omega)).trans c0, (hx.cells _ _ z).trans c1, hl, own_ext hv hx, hn⟩
theorem fbox_set {c : Nat} {acc : List (List Nat)} {L : List Nat} {s v0 x0 : Value} {w : World} (z : c + 1 < w.heap.size) (f0 : w.frozen? ⟨c, 0, none⟩ = false) (f1 : w.frozen? ⟨c + 1, 0, none⟩ = false) (c0 : w.cell? ⟨c, 0, none⟩ = some v0) (c1 : w.cell? ⟨c + 1, 0, none⟩ = some x0)
    (hs : w.ownsRow (c + 2) 3 1 s L.length (ints L)) (hn : L.length ≤ 36) (hL : Lst1 (acc.map srt) (some L)) : FBox c acc ((w.setCell ⟨c, 0, none⟩ s).setCell ⟨c + 1, 0, none⟩ (.bool true)) := by
  have ho : Off (fun k => k = c ∨ k = c + 1) w ((w.setCell ⟨c, 0, none⟩ s).setCell ⟨c + 1, 0, none⟩ (.bool true)) := Off.set (S := fun k => k = c ∨ k = c + 1) (Off.set (S := fun k => k = c ∨ k = c + 1) (Off.refl _ _) (p := ⟨c, 0, none⟩) (.inl rfl) _) (p := ⟨c + 1, 0, none⟩) (.inr rfl) _
  have g1 : (w.setCell ⟨c, 0, none⟩ s).cell? ⟨c + 1, 0, none⟩ = some x0 := (World.cell?_of_block (a := ⟨c + 1, 0, none⟩) (heap_setCell_other w ⟨c, 0, none⟩ (c + 1) s (by simp))).trans c1
  refine ⟨Nat.lt_of_lt_of_le z ho.size, by rw [World.frozen?_setCell, World.frozen?_setCell]; exact f0, by rw [World.frozen?_setCell, World.frozen?_setCell]; exact f1, s, some L, ?_, World.cell?_setCell_same _ _ _ g1, hL, ho.own hs (fun k hk => by omega) (Nat.le_refl _), hn⟩
  exact (World.cell?_of_block (a := ⟨c, 0, none⟩) (heap_setCell_other _ ⟨c + 1, 0, none⟩ c _ (by simp))).trans (World.cell?_setCell_same _ _ _ c0)
theorem FirstTiling1_n (c : Nat) (acc : List (List Nat)) (D : List Nat) (hl : D.length ≤ 36) (u : Value) (w : World) (hC : c + 2 ≤ w.heap.size) (hb : FBox c acc w) (hu : w.ownsRow (c + 2) 3 1 u D.length (ints D)) :
    Calls Try.prog 125 (#[u] ++ #[.pointer (some ⟨c + 1, 0, none⟩), .pointer (some ⟨c, 0, none⟩)]) w fun e w' => ∃ r, e = .returned r ∧ FBox c (acc ++ [D]) w' ∧ Off (fun k => k = c ∨ k = c + 1) w w' := by
  obtain ⟨z, f0, f1, v, b, c0, c1, hlst, hv, hvl⟩ := hb
  obtain ⟨uo, uc, rfl, _⟩ := own_shape hu
  obtain ⟨vo, vc, rfl, _⟩ := own_shape hv
  have hX0 : Ext w (w.alloc (.cells #[.slice uo D.length uc] 44)) := (Ext.refl w).alloc _
  have HSO := Lib.hid (sorted_n w.heap.size _ D (by omega) (w.alloc (.cells #[.slice uo D.length uc] 44)) (by simp) (World.cell?_alloc_at _ _ _ _ rfl) (rds_own (own_ext hu hX0)))
  have HX0 := Lib.hid hX0
  have e1 : (srt D).length = D.length := (srt_perm D).length_eq
  rw [← e1] at HSO HX0 ⊢
  have HV := Lib.hid hv
  have HL := Lib.hid hlst
  have HLA := Lib.hid (show (acc ++ [D]).map srt = acc.map srt ++ [srt D] by simp)
  have hl2 : (srt D).length ≤ 36 := by omega
  have HCM := Lib.hid (fun A B BA BB v u w hA hB h1 h2 => compare_n A B BA BB v u w hA hB h1 h2)
  clear hu hv hlst hX0
  clear e1
  generalize srt D = S at *
  cases b with
  | none =>
    have HN := Lib.hid (show Lst1 ((acc ++ [D]).map srt) (some S) by
      rw [HLA.out, lst1_none HL.out]; exact lst1_first S)
    simp only [Option.isSome_none] at c1
    go_enter Try.func125, Try.ntmps125
    go_wp2_with (first | (go_at_call 127; refine (values_n _ _ _ _).mono ?_; rintro e w1 ⟨rfl, rfl⟩) | (go_at_call 126; refine HSO.out.mono ?_; rintro e w1 ⟨s, rfl, hE, ho⟩; obtain ⟨so, sc, rfl, _⟩ := own_shape ho; have HX := Lib.hid (HX0.out.trans hE); have HS := Lib.hid (own_mono (B' := c + 2) ho (by simp; omega)); have g0 := (HX.out.cells _ _ (Nat.lt_of_succ_lt z)).trans c0; have g1 := (HX.out.cells _ _ z).trans c1; have h0 := (HX.out.frees _ _ (Nat.lt_of_succ_lt z)).trans f0; have h1 := (HX.out.frees _ _ z).trans f1; have z1 := Nat.lt_of_lt_of_le z HX.out.size; clear hE ho; obtain ⟨wa, rfl⟩ : ∃ x, x = w1 := ⟨_, rfl⟩))
    go_returns
    exact ⟨_, rfl, fbox_set z1 h0 h1 g0 g1 HS.out hl2 HN.out, Off.set (S := fun k => k = c ∨ k = c + 1) (Off.set (S := fun k => k = c ∨ k = c + 1) (HX.out.off _) (p := ⟨c, 0, none⟩) (.inl rfl) _) (p := ⟨c + 1, 0, none⟩) (.inr rfl) _⟩
  | some Y =>
    simp only [Option.isSome_some, Option.getD_some] at c1 c0 HV hvl
    obtain ⟨q, hq⟩ : ∃ q, q = cmpN S Y := ⟨_, rfl⟩
    have hcase : (decide (q < 0) = true ∧ Lst1 ((acc ++ [D]).map srt) (some S)) ∨ (decide (q < 0) = false ∧ Lst1 ((acc ++ [D]).map srt) (some Y)) := by
      rw [HLA.out]
      by_cases h : q < 0
      · exact .inl ⟨decide_eq_true h, lst1_new HL.out S (hq ▸ h)⟩
      · exact .inr ⟨decide_eq_false h, lst1_old HL.out S (hq ▸ h)⟩
    have HQ := Lib.hid hq
    clear hq
    rcases hcase with ⟨hd, hn⟩ | ⟨hd, hn⟩
    all_goals
      have HN := Lib.hid hn
      clear hn
      go_enter Try.func125, Try.ntmps125
      go_wp2_with (first | (go_at_call 127; refine (values_n _ _ _ _).mono ?_; rintro e w1 ⟨rfl, rfl⟩) | (go_at_call 126; refine HSO.out.mono ?_; rintro e w1 ⟨s, rfl, hE, ho⟩; obtain ⟨so, sc, rfl, _⟩ := own_shape ho; have HX := Lib.hid (HX0.out.trans hE); have HS := Lib.hid (own_mono (B' := c + 2) ho (by simp; omega)); have g0 := (HX.out.cells _ _ (Nat.lt_of_succ_lt z)).trans c0; have g1 := (HX.out.cells _ _ z).trans c1; have h0 := (HX.out.frees _ _ (Nat.lt_of_succ_lt z)).trans f0; have h1 := (HX.out.frees _ _ z).trans f1; have z1 := Nat.lt_of_lt_of_le z HX.out.size; have HV1 := Lib.hid (own_ext HV.out HX.out); clear hE ho; obtain ⟨wa, rfl⟩ : ∃ x, x = w1 := ⟨_, rfl⟩) | (go_at_call 128; refine (HCM.out S Y _ _ _ _ _ HS.out HV1.out (by omega) (by omega)).mono ?_; rintro e w1 ⟨rfl, rfl⟩; rw [← HQ.out]))
      go_returns
    · exact ⟨_, rfl, fbox_set z1 h0 h1 g0 g1 HS.out hl2 HN.out, Off.set (S := fun k => k = c ∨ k = c + 1) (Off.set (S := fun k => k = c ∨ k = c + 1) (HX.out.off _) (p := ⟨c, 0, none⟩) (.inl rfl) _) (p := ⟨c + 1, 0, none⟩) (.inr rfl) _⟩
    · exact ⟨_, rfl, ⟨z1, h0, h1, _, some Y, g0, g1, HN.out, HV1.out, hvl⟩, HX.out.off _⟩
theorem fbox_new (w : World) : FBox w.heap.size [] ((w.alloc (.cells #[.slice none 0 0] 44)).alloc (.cells #[.bool false] 4)) := by
  refine ⟨by simp, ?_, World.frozen?_alloc_at _ _ _ _ (by simp), .slice none 0 0, none, ?_, World.cell?_alloc_at _ _ _ _ (by simp), lst1_0, World.ownsRow_nil _ _ _ _, Nat.zero_le _⟩
  · exact (((Ext.refl _).alloc (.cells #[.bool false] 4)).frees w.heap.size 0 (by simp)).trans (World.frozen?_alloc_at _ _ _ _ rfl)
  · exact (((Ext.refl _).alloc (.cells #[.bool false] 4)).cells w.heap.size 0 (by simp)).trans (World.cell?_alloc_at _ _ _ _ rfl)
theorem FirstTiling_bad (r s : Nat → Int) (h : tiB r s = false) (w : World) : Calls Try.prog 62 #[(.agg #[.int .i64 (r 0), .int .i64 (r 1), .int .i64 (r 2), .int .i64 (r 3), .int .i64 (r 4), .int .i64 (r 5)]), (.agg #[.int .i64 (s 0), .int .i64 (s 1), .int .i64 (s 2), .int .i64 (s 3), .int .i64 (s 4), .int .i64 (s 5)])] w fun e w' => ∃ v, e = .returned (.tuple #[v, .bool false]) ∧ Ext w w' ∧ w'.ownsRow w.heap.size 33 2 v 0 [] := by
  have H := Lib.hid (fun w => areTiled_bad r s h w)
  clear h
  skip
  go_enter Try.func62, Try.ntmps62
  go_wp2_with (go_at_call 123; refine (H.out _).mono ?_; rintro e w1 ⟨rfl, hE⟩; replace k0_0 : w1.cell? ⟨w.heap.size, 0, none⟩ = some (.int .i64 (r 0)) := (hE.cells _ _ (by first | exact l0 | (simp; done) | (simp; omega))).trans (by first | exact k0_0 | (go_simp; done)); replace k0_1 : w1.cell? ⟨w.heap.size, 1, none⟩ = some (.int .i64 (r 1)) := (hE.cells _ _ (by first | exact l0 | (simp; done) | (simp; omega))).trans (by first | exact k0_1 | (go_simp; done)); replace k0_2 : w1.cell? ⟨w.heap.size, 2, none⟩ = some (.int .i64 (r 2)) := (hE.cells _ _ (by first | exact l0 | (simp; done) | (simp; omega))).trans (by first | exact k0_2 | (go_simp; done)); replace k0_3 : w1.cell? ⟨w.heap.size, 3, none⟩ = some (.int .i64 (r 3)) := (hE.cells _ _ (by first | exact l0 | (simp; done) | (simp; omega))).trans (by first | exact k0_3 | (go_simp; done)); replace k0_4 : w1.cell? ⟨w.heap.size, 4, none⟩ = some (.int .i64 (r 4)) := (hE.cells _ _ (by first | exact l0 | (simp; done) | (simp; omega))).trans (by first | exact k0_4 | (go_simp; done)); replace k0_5 : w1.cell? ⟨w.heap.size, 5, none⟩ = some (.int .i64 (r 5)) := (hE.cells _ _ (by first | exact l0 | (simp; done) | (simp; omega))).trans (by first | exact k0_5 | (go_simp; done)); replace k1_0 : w1.cell? ⟨w.heap.size + 1, 0, none⟩ = some (.int .i64 (s 0)) := (hE.cells _ _ (by first | exact l1 | (simp; done) | (simp; omega))).trans (by first | exact k1_0 | (go_simp; done)); replace k1_1 : w1.cell? ⟨w.heap.size + 1, 1, none⟩ = some (.int .i64 (s 1)) := (hE.cells _ _ (by first | exact l1 | (simp; done) | (simp; omega))).trans (by first | exact k1_1 | (go_simp; done)); replace k1_2 : w1.cell? ⟨w.heap.size + 1, 2, none⟩ = some (.int .i64 (s 2)) := (hE.cells _ _ (by first | exact l1 | (simp; done) | (simp; omega))).trans (by first | exact k1_2 | (go_simp; done)); replace k1_3 : w1.cell? ⟨w.heap.size + 1, 3, none⟩ = some (.int .i64 (s 3)) := (hE.cells _ _ (by first | exact l1 | (simp; done) | (simp; omega))).trans (by first | exact k1_3 | (go_simp; done)); replace k1_4 : w1.cell? ⟨w.heap.size + 1, 4, none⟩ = some (.int .i64 (s 4)) := (hE.cells _ _ (by first | exact l1 | (simp; done) | (simp; omega))).trans (by first | exact k1_4 | (go_simp; done)); replace k1_5 : w1.cell? ⟨w.heap.size + 1, 5, none⟩ = some (.int .i64 (s 5)) := (hE.cells _ _ (by first | exact l1 | (simp; done) | (simp; omega))).trans (by first | exact k1_5 | (go_simp; done)); replace l0 : w.heap.size < w1.heap.size := Nat.lt_of_lt_of_le (by first | exact l0 | (simp; done) | (simp; omega)) hE.size; replace l1 : w.heap.size + 1 < w1.heap.size := Nat.lt_of_lt_of_le (by first | exact l1 | (simp; done) | (simp; omega)) hE.size)
  go_returns
  exact ⟨_, rfl, (by (repeat' (first | (with_reducible exact Ext.refl _) | (with_reducible assumption) | (with_reducible refine Ext.alloc ?_ _) | (with_reducible refine Ext.drew ?_) | (with_reducible refine Ext.drewN ?_ _) | (with_reducible refine Ext.setCell ?_ ?_ _) | (with_reducible refine Ext.trans ?_ (by assumption)))) <;> (first | (with_reducible assumption) | omega | (simp; done) | (simp; omega))), World.ownsRow_nil _ _ _ _⟩
theorem tl_mem {f : Nat → Nat} {p : Nat → Bool} {z : Nat} {T : List Nat} (h : (tl f (fl p 36) z []).head? = some T) : (∀ i k : Nat, T[i]? = some k → k < 36) ∧ T.length ≤ 36 := by
  have hm := List.mem_of_mem_head? h
  obtain ⟨S, rfl, h1, _⟩ := tl_til _ z [] T hm
  refine ⟨fun i k hk => ?_, Nat.le_trans h1.length_le (fl_le _ _)⟩
  obtain ⟨j, hj⟩ := List.getElem?_of_mem (h1.subset (List.mem_of_getElem? hk))
  exact fl_lt hj
theorem FirstTiling_ok (n m : Nat) (hn : n < 68719476736) (hm : m < 68719476736) (h : (decide (n ≠ 0) && decide (cnt m ≤ 12)) = true) (TL : Option (List Nat)) (hTL : TL = (tl (pr6 n) (fl (opP n m) 36) m []).head?) (w : World) : Calls Try.prog 62 #[(.agg #[.int .i64 (rw n 0), .int .i64 (rw n 1), .int .i64 (rw n 2), .int .i64 (rw n 3), .int .i64 (rw n 4), .int .i64 (rw n 5)]), (.agg #[.int .i64 (rw m 0), .int .i64 (rw m 1), .int .i64 (rw m 2), .int .i64 (rw m 3), .int .i64 (rw m 4), .int .i64 (rw m 5)])] w fun e w' => ∃ v, e = .returned (.tuple #[v, .bool TL.isSome]) ∧ Ext w w' ∧ w'.ownsRow w.heap.size 33 2 v (TL.getD []).length (pxy (TL.getD [])) := by
  have H := Lib.hid (fun w => areTiled_n n m hn hm true h w)
  have h0 : n ≠ 0 := of_decide_eq_true (Bool.and_eq_true_iff.1 h).1
  have HO := Lib.hid (fun w => open_n n m hm hn w)
  have HTL := Lib.hid (tI_len (pr6 n) (pr6_lt n) (pr6_ne hn h0) (fl (opP n m) 36) 37 m [] (by have := cnt_le m; omega) hm)
  have HTB := Lib.hid (show cT (pr6 n) (fl (opP n m) 36) m ≤ 68719476736 from Nat.le_trans (cT_le _ _ _) (Nat.le_trans (Nat.pow_le_pow_right (by omega) (fl_le _ _)) (by decide)))
  have HF := Lib.hid (fun b hb => (first_is (pr6_lt n) (pr6_ne hn h0) (asc_fl (opP n m) 36) m hm 37 (by have := cnt_le m; omega) b hb).trans hTL.symm)
  have HY := Lib.hid (fun T (e : TL = some T) => tl_mem (hTL.symm.trans e))
  have HCO := Lib.hid (fun T (hT : (∀ i k : Nat, T[i]? = some k → k < 36) ∧ T.length ≤ 36) B v w ho => cellsOf_n T hT.1 (by omega) B v w ho)
  have HA := Lib.hid (fun (c : Nat) (v : Value) (w : World) (hC : c + 2 ≤ w.heap.size) (hv : w.ownsRow (c + 2) 3 1 v (fl (opP n m) 36).length (ints (fl (opP n m) 36))) (hk : FBox c [] w) =>
    tilings_n n hn h0 (fl (opP n m) 36) (fun i k h => fl_lt h) (fl_le _ _) 125 #[.pointer (some ⟨c + 1, 0, none⟩), .pointer (some ⟨c, 0, none⟩)] Try.call125 (fun k => k = c ∨ k = c + 1) (c + 2) (fun k h => by omega) (FBox c) (fbox_stable c) (fun acc D u w _ hd hC hb hu => FirstTiling1_n c acc D hd u w hC hb hu) 37 m (by have := cnt_le m; omega) hm [] [] v (.slice none 0 0) w hC hv (World.ownsRow_nil _ _ _ _) (by have := cnt_le m; simp; omega) hk (by rw [HTL.out]; have := HTB.out; simp; omega))
  clear h h0 hTL HTL HTB
  generalize fl (opP n m) 36 = L at *
  generalize tI (pr6 n) L 37 m [] = TT at *
  skip
  go_enter Try.func62, Try.ntmps62
  go_wp2_with (first | ((go_at_call 123; refine (H.out _).mono ?_; rintro e w1 ⟨rfl, hE⟩; replace k0_0 : w1.cell? ⟨w.heap.size, 0, none⟩ = some (.int .i64 (rw n 0)) := (hE.cells _ _ (by first | exact l0 | (simp; done) | (simp; omega))).trans (by first | exact k0_0 | (go_simp; done)); replace k0_1 : w1.cell? ⟨w.heap.size, 1, none⟩ = some (.int .i64 (rw n 1)) := (hE.cells _ _ (by first | exact l0 | (simp; done) | (simp; omega))).trans (by first | exact k0_1 | (go_simp; done)); replace k0_2 : w1.cell? ⟨w.heap.size, 2, none⟩ = some (.int .i64 (rw n 2)) := (hE.cells _ _ (by first | exact l0 | (simp; done) | (simp; omega))).trans (by first | exact k0_2 | (go_simp; done)); replace k0_3 : w1.cell? ⟨w.heap.size, 3, none⟩ = some (.int .i64 (rw n 3)) := (hE.cells _ _ (by first | exact l0 | (simp; done) | (simp; omega))).trans (by first | exact k0_3 | (go_simp; done)); replace k0_4 : w1.cell? ⟨w.heap.size, 4, none⟩ = some (.int .i64 (rw n 4)) := (hE.cells _ _ (by first | exact l0 | (simp; done) | (simp; omega))).trans (by first | exact k0_4 | (go_simp; done)); replace k0_5 : w1.cell? ⟨w.heap.size, 5, none⟩ = some (.int .i64 (rw n 5)) := (hE.cells _ _ (by first | exact l0 | (simp; done) | (simp; omega))).trans (by first | exact k0_5 | (go_simp; done)); replace k1_0 : w1.cell? ⟨w.heap.size + 1, 0, none⟩ = some (.int .i64 (rw m 0)) := (hE.cells _ _ (by first | exact l1 | (simp; done) | (simp; omega))).trans (by first | exact k1_0 | (go_simp; done)); replace k1_1 : w1.cell? ⟨w.heap.size + 1, 1, none⟩ = some (.int .i64 (rw m 1)) := (hE.cells _ _ (by first | exact l1 | (simp; done) | (simp; omega))).trans (by first | exact k1_1 | (go_simp; done)); replace k1_2 : w1.cell? ⟨w.heap.size + 1, 2, none⟩ = some (.int .i64 (rw m 2)) := (hE.cells _ _ (by first | exact l1 | (simp; done) | (simp; omega))).trans (by first | exact k1_2 | (go_simp; done)); replace k1_3 : w1.cell? ⟨w.heap.size + 1, 3, none⟩ = some (.int .i64 (rw m 3)) := (hE.cells _ _ (by first | exact l1 | (simp; done) | (simp; omega))).trans (by first | exact k1_3 | (go_simp; done)); replace k1_4 : w1.cell? ⟨w.heap.size + 1, 4, none⟩ = some (.int .i64 (rw m 4)) := (hE.cells _ _ (by first | exact l1 | (simp; done) | (simp; omega))).trans (by first | exact k1_4 | (go_simp; done)); replace k1_5 : w1.cell? ⟨w.heap.size + 1, 5, none⟩ = some (.int .i64 (rw m 5)) := (hE.cells _ _ (by first | exact l1 | (simp; done) | (simp; omega))).trans (by first | exact k1_5 | (go_simp; done)); replace l0 : w.heap.size < w1.heap.size := Nat.lt_of_lt_of_le (by first | exact l0 | (simp; done) | (simp; omega)) hE.size; replace l1 : w.heap.size + 1 < w1.heap.size := Nat.lt_of_lt_of_le (by first | exact l1 | (simp; done) | (simp; omega)) hE.size); have hxa : Ext w w1 := (by (repeat' (first | (with_reducible exact Ext.refl _) | (with_reducible assumption) | (with_reducible refine Ext.alloc ?_ _) | (with_reducible refine Ext.drew ?_) | (with_reducible refine Ext.drewN ?_ _) | (with_reducible refine Ext.setCell ?_ ?_ _) | (with_reducible refine Ext.trans ?_ (by assumption)))) <;> (first | (with_reducible assumption) | omega | (simp; done) | (simp; omega))); have HB0 := Lib.hid (fbox_new w1); obtain ⟨wa, rfl⟩ : ∃ x, x = w1 := ⟨_, rfl⟩) | ((go_at_call 107; refine (HO.out _).mono ?_; rintro e w1 ⟨v0, rfl, hE, ho⟩; replace k0_0 : w1.cell? ⟨w.heap.size, 0, none⟩ = some (.int .i64 (rw n 0)) := (hE.cells _ _ (by first | exact l0 | (simp; done) | (simp; omega))).trans (by first | exact k0_0 | (go_simp; done)); replace k0_1 : w1.cell? ⟨w.heap.size, 1, none⟩ = some (.int .i64 (rw n 1)) := (hE.cells _ _ (by first | exact l0 | (simp; done) | (simp; omega))).trans (by first | exact k0_1 | (go_simp; done)); replace k0_2 : w1.cell? ⟨w.heap.size, 2, none⟩ = some (.int .i64 (rw n 2)) := (hE.cells _ _ (by first | exact l0 | (simp; done) | (simp; omega))).trans (by first | exact k0_2 | (go_simp; done)); replace k0_3 : w1.cell? ⟨w.heap.size, 3, none⟩ = some (.int .i64 (rw n 3)) := (hE.cells _ _ (by first | exact l0 | (simp; done) | (simp; omega))).trans (by first | exact k0_3 | (go_simp; done)); replace k0_4 : w1.cell? ⟨w.heap.size, 4, none⟩ = some (.int .i64 (rw n 4)) := (hE.cells _ _ (by first | exact l0 | (simp; done) | (simp; omega))).trans (by first | exact k0_4 | (go_simp; done)); replace k0_5 : w1.cell? ⟨w.heap.size, 5, none⟩ = some (.int .i64 (rw n 5)) := (hE.cells _ _ (by first | exact l0 | (simp; done) | (simp; omega))).trans (by first | exact k0_5 | (go_simp; done)); replace k1_0 : w1.cell? ⟨w.heap.size + 1, 0, none⟩ = some (.int .i64 (rw m 0)) := (hE.cells _ _ (by first | exact l1 | (simp; done) | (simp; omega))).trans (by first | exact k1_0 | (go_simp; done)); replace k1_1 : w1.cell? ⟨w.heap.size + 1, 1, none⟩ = some (.int .i64 (rw m 1)) := (hE.cells _ _ (by first | exact l1 | (simp; done) | (simp; omega))).trans (by first | exact k1_1 | (go_simp; done)); replace k1_2 : w1.cell? ⟨w.heap.size + 1, 2, none⟩ = some (.int .i64 (rw m 2)) := (hE.cells _ _ (by first | exact l1 | (simp; done) | (simp; omega))).trans (by first | exact k1_2 | (go_simp; done)); replace k1_3 : w1.cell? ⟨w.heap.size + 1, 3, none⟩ = some (.int .i64 (rw m 3)) := (hE.cells _ _ (by first | exact l1 | (simp; done) | (simp; omega))).trans (by first | exact k1_3 | (go_simp; done)); replace k1_4 : w1.cell? ⟨w.heap.size + 1, 4, none⟩ = some (.int .i64 (rw m 4)) := (hE.cells _ _ (by first | exact l1 | (simp; done) | (simp; omega))).trans (by first | exact k1_4 | (go_simp; done)); replace k1_5 : w1.cell? ⟨w.heap.size + 1, 5, none⟩ = some (.int .i64 (rw m 5)) := (hE.cells _ _ (by first | exact l1 | (simp; done) | (simp; omega))).trans (by first | exact k1_5 | (go_simp; done)); replace l0 : w.heap.size < w1.heap.size := Nat.lt_of_lt_of_le (by first | exact l0 | (simp; done) | (simp; omega)) hE.size; replace l1 : w.heap.size + 1 < w1.heap.size := Nat.lt_of_lt_of_le (by first | exact l1 | (simp; done) | (simp; omega)) hE.size; have HW := Lib.hid ho; clear ho); have HX0 := Lib.hid hE; obtain ⟨wb, rfl⟩ : ∃ x, x = w1 := ⟨_, rfl⟩) | (go_at_call 124; refine (HA.out wa.heap.size _ _ (by have := HX0.out.size; simp at this; omega) (own_mono HW.out (by simp)) (fbox_stable _ _ _ _ HB0.out HX0.out)).mono ?_; rintro e w1 ⟨r, rfl, ⟨hb1, hb2, hb3, bv, bb, hb4, hb5, hb6, hb7, hb8⟩, hoff⟩; rw [List.nil_append] at hb6; have hbb := HF.out bb hb6; subst hbb; obtain ⟨bo, bc, rfl, _⟩ := own_shape hb7; have HB7 := Lib.hid hb7; have HXC := Lib.hid (Off.ext ((by (repeat' (first | (with_reducible exact Ext.refl _) | (with_reducible assumption) | (with_reducible refine Ext.alloc ?_ _) | (with_reducible refine Ext.drew ?_) | (with_reducible refine Ext.drewN ?_ _) | (with_reducible refine Ext.setCell ?_ ?_ _) | (with_reducible refine Ext.trans ?_ (by assumption)))) <;> (first | (with_reducible assumption) | omega | (simp; done) | (simp; omega))) : Ext w wb) hoff (fun k hk => by have := hxa.size; omega)); clear hb6 hb7 hoff; obtain ⟨wc, rfl⟩ : ∃ x, x = w1 := ⟨_, rfl⟩; cases bb) | (go_at_call 129; refine (HCO.out _ (HY.out _ rfl) _ _ _ HB7.out).mono ?_; rintro e w1 ⟨v2, rfl, hE2, ho2⟩; have HO2 := Lib.hid ho2; have HE2 := Lib.hid hE2; clear ho2 hE2))
  · go_returns
    exact ⟨_, rfl, HXC.out, World.ownsRow_nil _ _ _ _⟩
  · go_returns
    exact ⟨_, rfl, HXC.out.trans HE2.out, own_mono HO2.out HXC.out.size⟩
end Go.Proofs.Ytlifhoajamnehaa
