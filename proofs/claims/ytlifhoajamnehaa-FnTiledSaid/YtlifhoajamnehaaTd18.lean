/- TilC FirT FirI FirS: contracts of functions, and lemmas, for this seat. Conditions: as each states. -/
import Derived.Test.YtlifhoajamnehaaTd15
import Derived.Test.YtlifhoajamnehaaTd17
import Derived.Test.YtlifhoajamnehaaTd14
import Derived.Test.YtlifhoajamnehaaTd13
import Derived.Test.YtlifhoajamnehaaTd12
set_option linter.unusedVariables false
set_option linter.unusedSimpArgs false
set_option maxRecDepth 100000
set_option maxHeartbeats 4000000
namespace Go.Proofs.Ytlifhoajamnehaa
open Go Go.RowKit Instr
theorem sCountTilings_bad (r s : Nat → Int) (h : tiB r s = false) (w : World) : Calls Try.prog 69 #[(.agg #[.int .i64 (r 0), .int .i64 (r 1), .int .i64 (r 2), .int .i64 (r 3), .int .i64 (r 4), .int .i64 (r 5)]), (.agg #[.int .i64 (s 0), .int .i64 (s 1), .int .i64 (s 2), .int .i64 (s 3), .int .i64 (s 4), .int .i64 (s 5)])] w fun e w' => e = .returned (.tuple #[.int .i64 0, .bool false]) ∧ Ext w w' := by
  have H := Lib.hid (fun w => l6Small_bad r s h w)
  clear h
  skip
  go_enter Try.func69, Try.ntmps69
  go_wp2_with (go_at_call 119; refine (H.out _).mono ?_; rintro e w1 ⟨rfl, hE⟩; replace k0_0 : w1.cell? ⟨w.heap.size, 0, none⟩ = some (.int .i64 (r 0)) := (hE.cells _ _ (by first | exact l0 | (simp; done) | (simp; omega))).trans (by first | exact k0_0 | (go_simp; done)); replace k0_1 : w1.cell? ⟨w.heap.size, 1, none⟩ = some (.int .i64 (r 1)) := (hE.cells _ _ (by first | exact l0 | (simp; done) | (simp; omega))).trans (by first | exact k0_1 | (go_simp; done)); replace k0_2 : w1.cell? ⟨w.heap.size, 2, none⟩ = some (.int .i64 (r 2)) := (hE.cells _ _ (by first | exact l0 | (simp; done) | (simp; omega))).trans (by first | exact k0_2 | (go_simp; done)); replace k0_3 : w1.cell? ⟨w.heap.size, 3, none⟩ = some (.int .i64 (r 3)) := (hE.cells _ _ (by first | exact l0 | (simp; done) | (simp; omega))).trans (by first | exact k0_3 | (go_simp; done)); replace k0_4 : w1.cell? ⟨w.heap.size, 4, none⟩ = some (.int .i64 (r 4)) := (hE.cells _ _ (by first | exact l0 | (simp; done) | (simp; omega))).trans (by first | exact k0_4 | (go_simp; done)); replace k0_5 : w1.cell? ⟨w.heap.size, 5, none⟩ = some (.int .i64 (r 5)) := (hE.cells _ _ (by first | exact l0 | (simp; done) | (simp; omega))).trans (by first | exact k0_5 | (go_simp; done)); replace k1_0 : w1.cell? ⟨w.heap.size + 1, 0, none⟩ = some (.int .i64 (s 0)) := (hE.cells _ _ (by first | exact l1 | (simp; done) | (simp; omega))).trans (by first | exact k1_0 | (go_simp; done)); replace k1_1 : w1.cell? ⟨w.heap.size + 1, 1, none⟩ = some (.int .i64 (s 1)) := (hE.cells _ _ (by first | exact l1 | (simp; done) | (simp; omega))).trans (by first | exact k1_1 | (go_simp; done)); replace k1_2 : w1.cell? ⟨w.heap.size + 1, 2, none⟩ = some (.int .i64 (s 2)) := (hE.cells _ _ (by first | exact l1 | (simp; done) | (simp; omega))).trans (by first | exact k1_2 | (go_simp; done)); replace k1_3 : w1.cell? ⟨w.heap.size + 1, 3, none⟩ = some (.int .i64 (s 3)) := (hE.cells _ _ (by first | exact l1 | (simp; done) | (simp; omega))).trans (by first | exact k1_3 | (go_simp; done)); replace k1_4 : w1.cell? ⟨w.heap.size + 1, 4, none⟩ = some (.int .i64 (s 4)) := (hE.cells _ _ (by first | exact l1 | (simp; done) | (simp; omega))).trans (by first | exact k1_4 | (go_simp; done)); replace k1_5 : w1.cell? ⟨w.heap.size + 1, 5, none⟩ = some (.int .i64 (s 5)) := (hE.cells _ _ (by first | exact l1 | (simp; done) | (simp; omega))).trans (by first | exact k1_5 | (go_simp; done)); replace l0 : w.heap.size < w1.heap.size := Nat.lt_of_lt_of_le (by first | exact l0 | (simp; done) | (simp; omega)) hE.size; replace l1 : w.heap.size + 1 < w1.heap.size := Nat.lt_of_lt_of_le (by first | exact l1 | (simp; done) | (simp; omega)) hE.size)
  go_returns
  exact ⟨rfl, (by (repeat' (first | (with_reducible exact Ext.refl _) | (with_reducible assumption) | (with_reducible refine Ext.alloc ?_ _) | (with_reducible refine Ext.drew ?_) | (with_reducible refine Ext.drewN ?_ _) | (with_reducible refine Ext.setCell ?_ ?_ _) | (with_reducible refine Ext.trans ?_ (by assumption)))) <;> (first | (with_reducible assumption) | omega | (simp; done) | (simp; omega)))⟩
theorem inn_nil {w : World} {B b : Nat} (h : w.ownsRow B 33 2 (.slice (some ⟨b, 0, none⟩) 0 0) 0 []) : Inn w (.slice (some ⟨b, 0, none⟩) 0 0) [] := inn_own (L := []) rfl h
theorem sCountTilings_ok (n m : Nat) (hn : n < 68719476736) (hm : m < 68719476736) (h : (decide (n ≠ 0) && decide (cnt m ≤ 12)) = true) (w : World) : Calls Try.prog 69 #[(.agg #[.int .i64 (rw n 0), .int .i64 (rw n 1), .int .i64 (rw n 2), .int .i64 (rw n 3), .int .i64 (rw n 4), .int .i64 (rw n 5)]), (.agg #[.int .i64 (rw m 0), .int .i64 (rw m 1), .int .i64 (rw m 2), .int .i64 (rw m 3), .int .i64 (rw m 4), .int .i64 (rw m 5)])] w fun e w' => e = .returned (.tuple #[.int .i64 (cT (pr6 n) (fl (opP n m) 36) m : Nat), .bool true]) ∧ Ext w w' := by
  have H := Lib.hid (fun w => l6Small_n n m hn true h w)
  have h0 : n ≠ 0 := of_decide_eq_true (Bool.and_eq_true_iff.1 h).1
  have HO := Lib.hid (fun w => l6Open_n n m w)
  have HA := Lib.hid (fun v u w hr hu => l6Tilings_n n hn h0 37 (fl (opP n m) 36) (by have := fl_le (opP n m) 36; omega) (fun i k h => fl_lt h) (fl_le _ _) m hm [] (by have := cnt_le m; simp; omega) v u w hr hu)
  rw [← tl_len (pr6 n) (pr6_lt n) (pr6_ne hn h0) (fl (opP n m) 36) m []]
  clear h
  generalize fl (opP n m) 36 = L at *
  generalize tl (pr6 n) L m [] = TT at *
  skip
  go_enter Try.func69, Try.ntmps69
  go_wp2_with ((go_at_call 119; refine (H.out _).mono ?_; rintro e w1 ⟨rfl, hE⟩; replace k0_0 : w1.cell? ⟨w.heap.size, 0, none⟩ = some (.int .i64 (rw n 0)) := (hE.cells _ _ (by first | exact l0 | (simp; done) | (simp; omega))).trans (by first | exact k0_0 | (go_simp; done)); replace k0_1 : w1.cell? ⟨w.heap.size, 1, none⟩ = some (.int .i64 (rw n 1)) := (hE.cells _ _ (by first | exact l0 | (simp; done) | (simp; omega))).trans (by first | exact k0_1 | (go_simp; done)); replace k0_2 : w1.cell? ⟨w.heap.size, 2, none⟩ = some (.int .i64 (rw n 2)) := (hE.cells _ _ (by first | exact l0 | (simp; done) | (simp; omega))).trans (by first | exact k0_2 | (go_simp; done)); replace k0_3 : w1.cell? ⟨w.heap.size, 3, none⟩ = some (.int .i64 (rw n 3)) := (hE.cells _ _ (by first | exact l0 | (simp; done) | (simp; omega))).trans (by first | exact k0_3 | (go_simp; done)); replace k0_4 : w1.cell? ⟨w.heap.size, 4, none⟩ = some (.int .i64 (rw n 4)) := (hE.cells _ _ (by first | exact l0 | (simp; done) | (simp; omega))).trans (by first | exact k0_4 | (go_simp; done)); replace k0_5 : w1.cell? ⟨w.heap.size, 5, none⟩ = some (.int .i64 (rw n 5)) := (hE.cells _ _ (by first | exact l0 | (simp; done) | (simp; omega))).trans (by first | exact k0_5 | (go_simp; done)); replace k1_0 : w1.cell? ⟨w.heap.size + 1, 0, none⟩ = some (.int .i64 (rw m 0)) := (hE.cells _ _ (by first | exact l1 | (simp; done) | (simp; omega))).trans (by first | exact k1_0 | (go_simp; done)); replace k1_1 : w1.cell? ⟨w.heap.size + 1, 1, none⟩ = some (.int .i64 (rw m 1)) := (hE.cells _ _ (by first | exact l1 | (simp; done) | (simp; omega))).trans (by first | exact k1_1 | (go_simp; done)); replace k1_2 : w1.cell? ⟨w.heap.size + 1, 2, none⟩ = some (.int .i64 (rw m 2)) := (hE.cells _ _ (by first | exact l1 | (simp; done) | (simp; omega))).trans (by first | exact k1_2 | (go_simp; done)); replace k1_3 : w1.cell? ⟨w.heap.size + 1, 3, none⟩ = some (.int .i64 (rw m 3)) := (hE.cells _ _ (by first | exact l1 | (simp; done) | (simp; omega))).trans (by first | exact k1_3 | (go_simp; done)); replace k1_4 : w1.cell? ⟨w.heap.size + 1, 4, none⟩ = some (.int .i64 (rw m 4)) := (hE.cells _ _ (by first | exact l1 | (simp; done) | (simp; omega))).trans (by first | exact k1_4 | (go_simp; done)); replace k1_5 : w1.cell? ⟨w.heap.size + 1, 5, none⟩ = some (.int .i64 (rw m 5)) := (hE.cells _ _ (by first | exact l1 | (simp; done) | (simp; omega))).trans (by first | exact k1_5 | (go_simp; done)); replace l0 : w.heap.size < w1.heap.size := Nat.lt_of_lt_of_le (by first | exact l0 | (simp; done) | (simp; omega)) hE.size; replace l1 : w.heap.size + 1 < w1.heap.size := Nat.lt_of_lt_of_le (by first | exact l1 | (simp; done) | (simp; omega)) hE.size); obtain ⟨wa, rfl⟩ : ∃ x, x = w1 := ⟨_, rfl⟩)
  have hsz := l0
  have hxa : Ext w wa := (by (repeat' (first | (with_reducible exact Ext.refl _) | (with_reducible assumption) | (with_reducible refine Ext.alloc ?_ _) | (with_reducible refine Ext.drew ?_) | (with_reducible refine Ext.drewN ?_ _) | (with_reducible refine Ext.setCell ?_ ?_ _) | (with_reducible refine Ext.trans ?_ (by assumption)))) <;> (first | (with_reducible assumption) | omega | (simp; done) | (simp; omega)))
  refine wp_made [(0, true), (1, true), (2, true), (3, true)] [(4, []), (5, [])] [(6, false)] [7, 8, 9] (fun i => if i = 4 then fun v x => x.ownsRow wa.heap.size 33 2 v L.length (pxy L) else Emp wa.heap.size 33 2) (by kernel_rfl) (by kernel_rfl) ?_ ?_
  · intro i x
    split
    · exact fun _ _ hx h => own_ext h hx
    · exact emp_stable _ _ _ _
  simp only [pickO, pickT, List.getElem?_cons_succ, List.getElem?_cons_zero]
  intro hgr
  (refine walkP_step (fun K hK => ?_); go_simp; (try (go_ints; try go_simp)); first | (refine hK _ ?_; clear hK K) | (apply Exists.intro; refine ⟨fun _ => ?_, hK _ ?_⟩; (fail); clear hK K) | (simp only [↓IntWalk.iteOmega]; (try go_simp); (try (go_ints; try go_simp)); first | (refine hK _ ?_; clear hK K) | (apply Exists.intro; refine ⟨fun _ => ?_, hK _ ?_⟩; (fail); clear hK K))); (refine walkP_step (fun K hK => ?_); go_simp; (try (go_ints; try go_simp)); first | (refine hK _ ?_; clear hK K) | (apply Exists.intro; refine ⟨fun _ => ?_, hK _ ?_⟩; (fail); clear hK K) | (simp only [↓IntWalk.iteOmega]; (try go_simp); (try (go_ints; try go_simp)); first | (refine hK _ ?_; clear hK K) | (apply Exists.intro; refine ⟨fun _ => ?_, hK _ ?_⟩; (fail); clear hK K))); (refine walkP_step (fun K hK => ?_); go_simp; (try (go_ints; try go_simp)); first | (refine hK _ ?_; clear hK K) | (apply Exists.intro; refine ⟨fun _ => ?_, hK _ ?_⟩; (fail); clear hK K) | (simp only [↓IntWalk.iteOmega]; (try go_simp); (try (go_ints; try go_simp)); first | (refine hK _ ?_; clear hK K) | (apply Exists.intro; refine ⟨fun _ => ?_, hK _ ?_⟩; (fail); clear hK K))); (refine walkP_step (fun K hK => ?_); go_simp; (try (go_ints; try go_simp)); first | (refine hK _ ?_; clear hK K) | (apply Exists.intro; refine ⟨fun _ => ?_, hK _ ?_⟩; (fail); clear hK K) | (simp only [↓IntWalk.iteOmega]; (try go_simp); (try (go_ints; try go_simp)); first | (refine hK _ ?_; clear hK K) | (apply Exists.intro; refine ⟨fun _ => ?_, hK _ ?_⟩; (fail); clear hK K)))
  refine walkP_nil ⟨?_, List.forall_mem_cons.2 ⟨?_, List.forall_mem_cons.2 ⟨?_, fun _ h => nomatch h⟩⟩, fun xs F hF => ?_⟩
  · simp [dstO]
  · intro ow how xs wc hxc hF hd R hR
    simp only [List.getElem?_cons_succ, List.getElem?_cons_zero, Option.some.injEq] at how
    subst how
    simp only [puts, List.map_nil]
    go_simp
    simp only [anyUpon]
    go_at_call 121
    refine (HO.out _).mono ?_
    rintro e w1 ⟨v, rfl, hE, ho⟩
    exact ⟨_, rfl, hR _ _ hE (own_mono ho (by have := hxc.size; simp at this; omega))⟩
  · intro ow how xs wc hxc hF hd R hR
    simp only [List.getElem?_cons_succ, List.getElem?_cons_zero, Option.some.injEq] at how
    subst how
    simp only [puts, List.map_nil]
    have hs := hxc.size
    simp at hs
    go_simp
    simp only [anyUpon]
    exact hR _ _ ((Ext.refl _).alloc _) (emp_new 33 2 hs)
  simp only [dstO, puts, List.map_cons, List.map_nil, List.getElem?_cons_succ, List.getElem?_cons_zero, Option.bind_some, Option.getD_some] at hF ⊢
  have hF4 : ∀ w', F w' → w'.ownsRow wa.heap.size 33 2 (xs 14) L.length (pxy L) := fun w' h => (hF w' h).2 (4, []) (by simp)
  have hF5 : ∀ w', F w' → Emp wa.heap.size 33 2 (xs 15) w' := fun w' h => (hF w' h).2 (5, []) (by simp)
  clear hF
  refine walkP_callR (fun v => v) (fun v w' => LLs w' wa.heap.size v TT) (fun _ _ _ hx h => lls_ext h hx) rfl (fun wc hxc hFw R hR => ?_) (fun v3 => ?_)
  · have g1 := hF4 wc hFw
    obtain ⟨eb, f1, f2, f3, f4⟩ := hF5 wc hFw
    have hIn := inn_nil f4
    have hs := hxc.size
    simp at hs
    go_simp
    simp only [anyUpon]
    go_at_call 120
    refine (HA.out _ _ _ (rawl_own g1) hIn).mono ?_
    rintro e w1 ⟨r, rfl, hE, hll⟩
    exact ⟨_, rfl, hR _ _ hE (lls_mono hll hs)⟩
  refine walkP_nil ?_
  clear hgr
  intro w1 hE hFw
  obtain ⟨_, us, ho3, hl3⟩ := hFw
  obtain ⟨v3o, v3c, rfl, _⟩ := own_shape ho3
  go_wp2
  go_returns
  exact ⟨rfl, (by (repeat' (first | (with_reducible exact Ext.refl _) | (with_reducible assumption) | (with_reducible refine Ext.alloc ?_ _) | (with_reducible refine Ext.drew ?_) | (with_reducible refine Ext.drewN ?_ _) | (with_reducible refine Ext.setCell ?_ ?_ _) | (with_reducible refine Ext.trans ?_ (by assumption)))) <;> (first | (with_reducible assumption) | omega | (simp; done) | (simp; omega)))⟩
def Box1 (c : Nat) (acc : List (List Nat)) (w : World) : Prop := c < w.heap.size ∧ w.cell? ⟨c, 0, none⟩ = some (.int .i64 (acc.length : Nat)) ∧ w.frozen? ⟨c, 0, none⟩ = false
theorem box1_stable (c : Nat) (acc : List (List Nat)) (w w' : World) (h : Box1 c acc w) (hx : Ext w w') : Box1 c acc w' := ⟨Nat.lt_of_lt_of_le h.1 hx.size, (hx.cells _ _ h.1).trans h.2.1, (hx.frees _ _ h.1).trans h.2.2⟩
theorem box1_new (w : World) : Box1 w.heap.size [] (w.alloc (.cells #[.int .i64 0] 3)) := ⟨by simp, World.cell?_alloc_at _ _ _ _ rfl, World.frozen?_alloc_at _ _ _ _ rfl⟩
theorem CountTilings1_n (c : Nat) (acc : List (List Nat)) (D : List Nat) (u : Value) (w : World) (hl : acc.length < 1099511627776) (hb : Box1 c acc w) :
    Calls Try.prog 132 (#[u] ++ #[.pointer (some ⟨c, 0, none⟩)]) w fun e w' => ∃ r, e = .returned r ∧ Box1 c (acc ++ [D]) w' ∧ Off (fun k => k = c) w w' := by
  obtain ⟨h1, h2, h3⟩ := hb
  have HB := Lib.hid (show Box1 c (acc ++ [D]) (w.setCell ⟨c, 0, none⟩ (.int .i64 ((acc.length : Int) + 1))) from ⟨by simp; exact h1, by rw [World.cell?_setCell_same _ _ _ h2, List.length_append]; simp, by rw [World.frozen?_setCell]; exact h3⟩)
  have HO := Lib.hid (show Off (fun k => k = c) w (w.setCell ⟨c, 0, none⟩ (.int .i64 ((acc.length : Int) + 1))) from Off.set (S := fun k => k = c) (Off.refl _ _) (p := ⟨c, 0, none⟩) rfl _)
  go_enter Try.func132, Try.ntmps132
  go_wp2
  go_returns
  exact ⟨_, rfl, HB.out, HO.out⟩
theorem CountTilings_bad (r s : Nat → Int) (h : tiB r s = false) (w : World) : Calls Try.prog 68 #[(.agg #[.int .i64 (r 0), .int .i64 (r 1), .int .i64 (r 2), .int .i64 (r 3), .int .i64 (r 4), .int .i64 (r 5)]), (.agg #[.int .i64 (s 0), .int .i64 (s 1), .int .i64 (s 2), .int .i64 (s 3), .int .i64 (s 4), .int .i64 (s 5)])] w fun e w' => e = .returned (.tuple #[.int .i64 0, .bool false]) ∧ Ext w w' := by
  have H := Lib.hid (fun w => areTiled_bad r s h w)
  clear h
  skip
  go_enter Try.func68, Try.ntmps68
  go_wp2_with (go_at_call 123; refine (H.out _).mono ?_; rintro e w1 ⟨rfl, hE⟩; replace k0_0 : w1.cell? ⟨w.heap.size, 0, none⟩ = some (.int .i64 (r 0)) := (hE.cells _ _ (by first | exact l0 | (simp; done) | (simp; omega))).trans (by first | exact k0_0 | (go_simp; done)); replace k0_1 : w1.cell? ⟨w.heap.size, 1, none⟩ = some (.int .i64 (r 1)) := (hE.cells _ _ (by first | exact l0 | (simp; done) | (simp; omega))).trans (by first | exact k0_1 | (go_simp; done)); replace k0_2 : w1.cell? ⟨w.heap.size, 2, none⟩ = some (.int .i64 (r 2)) := (hE.cells _ _ (by first | exact l0 | (simp; done) | (simp; omega))).trans (by first | exact k0_2 | (go_simp; done)); replace k0_3 : w1.cell? ⟨w.heap.size, 3, none⟩ = some (.int .i64 (r 3)) := (hE.cells _ _ (by first | exact l0 | (simp; done) | (simp; omega))).trans (by first | exact k0_3 | (go_simp; done)); replace k0_4 : w1.cell? ⟨w.heap.size, 4, none⟩ = some (.int .i64 (r 4)) := (hE.cells _ _ (by first | exact l0 | (simp; done) | (simp; omega))).trans (by first | exact k0_4 | (go_simp; done)); replace k0_5 : w1.cell? ⟨w.heap.size, 5, none⟩ = some (.int .i64 (r 5)) := (hE.cells _ _ (by first | exact l0 | (simp; done) | (simp; omega))).trans (by first | exact k0_5 | (go_simp; done)); replace k1_0 : w1.cell? ⟨w.heap.size + 1, 0, none⟩ = some (.int .i64 (s 0)) := (hE.cells _ _ (by first | exact l1 | (simp; done) | (simp; omega))).trans (by first | exact k1_0 | (go_simp; done)); replace k1_1 : w1.cell? ⟨w.heap.size + 1, 1, none⟩ = some (.int .i64 (s 1)) := (hE.cells _ _ (by first | exact l1 | (simp; done) | (simp; omega))).trans (by first | exact k1_1 | (go_simp; done)); replace k1_2 : w1.cell? ⟨w.heap.size + 1, 2, none⟩ = some (.int .i64 (s 2)) := (hE.cells _ _ (by first | exact l1 | (simp; done) | (simp; omega))).trans (by first | exact k1_2 | (go_simp; done)); replace k1_3 : w1.cell? ⟨w.heap.size + 1, 3, none⟩ = some (.int .i64 (s 3)) := (hE.cells _ _ (by first | exact l1 | (simp; done) | (simp; omega))).trans (by first | exact k1_3 | (go_simp; done)); replace k1_4 : w1.cell? ⟨w.heap.size + 1, 4, none⟩ = some (.int .i64 (s 4)) := (hE.cells _ _ (by first | exact l1 | (simp; done) | (simp; omega))).trans (by first | exact k1_4 | (go_simp; done)); replace k1_5 : w1.cell? ⟨w.heap.size + 1, 5, none⟩ = some (.int .i64 (s 5)) := (hE.cells _ _ (by first | exact l1 | (simp; done) | (simp; omega))).trans (by first | exact k1_5 | (go_simp; done)); replace l0 : w.heap.size < w1.heap.size := Nat.lt_of_lt_of_le (by first | exact l0 | (simp; done) | (simp; omega)) hE.size; replace l1 : w.heap.size + 1 < w1.heap.size := Nat.lt_of_lt_of_le (by first | exact l1 | (simp; done) | (simp; omega)) hE.size)
  go_returns
  exact ⟨rfl, (by (repeat' (first | (with_reducible exact Ext.refl _) | (with_reducible assumption) | (with_reducible refine Ext.alloc ?_ _) | (with_reducible refine Ext.drew ?_) | (with_reducible refine Ext.drewN ?_ _) | (with_reducible refine Ext.setCell ?_ ?_ _) | (with_reducible refine Ext.trans ?_ (by assumption)))) <;> (first | (with_reducible assumption) | omega | (simp; done) | (simp; omega)))⟩
theorem CountTilings_ok (n m : Nat) (hn : n < 68719476736) (hm : m < 68719476736) (h : (decide (n ≠ 0) && decide (cnt m ≤ 12)) = true) (w : World) : Calls Try.prog 68 #[(.agg #[.int .i64 (rw n 0), .int .i64 (rw n 1), .int .i64 (rw n 2), .int .i64 (rw n 3), .int .i64 (rw n 4), .int .i64 (rw n 5)]), (.agg #[.int .i64 (rw m 0), .int .i64 (rw m 1), .int .i64 (rw m 2), .int .i64 (rw m 3), .int .i64 (rw m 4), .int .i64 (rw m 5)])] w fun e w' => e = .returned (.tuple #[.int .i64 (cT (pr6 n) (fl (opP n m) 36) m : Nat), .bool true]) ∧ Ext w w' := by
  have H := Lib.hid (fun w => areTiled_n n m hn hm true h w)
  have h0 : n ≠ 0 := of_decide_eq_true (Bool.and_eq_true_iff.1 h).1
  have HO := Lib.hid (fun w => open_n n m hm hn w)
  have HTL := Lib.hid (tI_len (pr6 n) (pr6_lt n) (pr6_ne hn h0) (fl (opP n m) 36) 37 m [] (by have := cnt_le m; omega) hm)
  have HTB := Lib.hid (show cT (pr6 n) (fl (opP n m) 36) m ≤ 68719476736 from Nat.le_trans (cT_le _ _ _) (Nat.le_trans (Nat.pow_le_pow_right (by omega) (fl_le _ _)) (by decide)))
  have HA := Lib.hid (fun (c : Nat) (v : Value) (w : World) (hC : c + 1 ≤ w.heap.size) (hv : w.ownsRow (c + 1) 3 1 v (fl (opP n m) 36).length (ints (fl (opP n m) 36))) (hk : Box1 c [] w) =>
    tilings_n n hn h0 (fl (opP n m) 36) (fun i k h => fl_lt h) (fl_le _ _) 132 #[.pointer (some ⟨c, 0, none⟩)] Try.call132 (fun k => k = c) (c + 1) (fun k h => by omega) (Box1 c) (box1_stable c) (fun acc D u w hl _ _ hb _ => CountTilings1_n c acc D u w hl hb) 37 m (by have := cnt_le m; omega) hm [] [] v (.slice none 0 0) w hC hv (World.ownsRow_nil _ _ _ _) (by have := cnt_le m; simp; omega) hk (by rw [HTL.out]; have := HTB.out; simp; omega))
  clear h h0
  rw [← HTL.out]
  clear HTL HTB
  generalize fl (opP n m) 36 = L at *
  generalize tI (pr6 n) L 37 m [] = TT at *
  skip
  go_enter Try.func68, Try.ntmps68
  go_wp2_with (first | ((go_at_call 123; refine (H.out _).mono ?_; rintro e w1 ⟨rfl, hE⟩; replace k0_0 : w1.cell? ⟨w.heap.size, 0, none⟩ = some (.int .i64 (rw n 0)) := (hE.cells _ _ (by first | exact l0 | (simp; done) | (simp; omega))).trans (by first | exact k0_0 | (go_simp; done)); replace k0_1 : w1.cell? ⟨w.heap.size, 1, none⟩ = some (.int .i64 (rw n 1)) := (hE.cells _ _ (by first | exact l0 | (simp; done) | (simp; omega))).trans (by first | exact k0_1 | (go_simp; done)); replace k0_2 : w1.cell? ⟨w.heap.size, 2, none⟩ = some (.int .i64 (rw n 2)) := (hE.cells _ _ (by first | exact l0 | (simp; done) | (simp; omega))).trans (by first | exact k0_2 | (go_simp; done)); replace k0_3 : w1.cell? ⟨w.heap.size, 3, none⟩ = some (.int .i64 (rw n 3)) := (hE.cells _ _ (by first | exact l0 | (simp; done) | (simp; omega))).trans (by first | exact k0_3 | (go_simp; done)); replace k0_4 : w1.cell? ⟨w.heap.size, 4, none⟩ = some (.int .i64 (rw n 4)) := (hE.cells _ _ (by first | exact l0 | (simp; done) | (simp; omega))).trans (by first | exact k0_4 | (go_simp; done)); replace k0_5 : w1.cell? ⟨w.heap.size, 5, none⟩ = some (.int .i64 (rw n 5)) := (hE.cells _ _ (by first | exact l0 | (simp; done) | (simp; omega))).trans (by first | exact k0_5 | (go_simp; done)); replace k1_0 : w1.cell? ⟨w.heap.size + 1, 0, none⟩ = some (.int .i64 (rw m 0)) := (hE.cells _ _ (by first | exact l1 | (simp; done) | (simp; omega))).trans (by first | exact k1_0 | (go_simp; done)); replace k1_1 : w1.cell? ⟨w.heap.size + 1, 1, none⟩ = some (.int .i64 (rw m 1)) := (hE.cells _ _ (by first | exact l1 | (simp; done) | (simp; omega))).trans (by first | exact k1_1 | (go_simp; done)); replace k1_2 : w1.cell? ⟨w.heap.size + 1, 2, none⟩ = some (.int .i64 (rw m 2)) := (hE.cells _ _ (by first | exact l1 | (simp; done) | (simp; omega))).trans (by first | exact k1_2 | (go_simp; done)); replace k1_3 : w1.cell? ⟨w.heap.size + 1, 3, none⟩ = some (.int .i64 (rw m 3)) := (hE.cells _ _ (by first | exact l1 | (simp; done) | (simp; omega))).trans (by first | exact k1_3 | (go_simp; done)); replace k1_4 : w1.cell? ⟨w.heap.size + 1, 4, none⟩ = some (.int .i64 (rw m 4)) := (hE.cells _ _ (by first | exact l1 | (simp; done) | (simp; omega))).trans (by first | exact k1_4 | (go_simp; done)); replace k1_5 : w1.cell? ⟨w.heap.size + 1, 5, none⟩ = some (.int .i64 (rw m 5)) := (hE.cells _ _ (by first | exact l1 | (simp; done) | (simp; omega))).trans (by first | exact k1_5 | (go_simp; done)); replace l0 : w.heap.size < w1.heap.size := Nat.lt_of_lt_of_le (by first | exact l0 | (simp; done) | (simp; omega)) hE.size; replace l1 : w.heap.size + 1 < w1.heap.size := Nat.lt_of_lt_of_le (by first | exact l1 | (simp; done) | (simp; omega)) hE.size); have hxa : Ext w w1 := (by (repeat' (first | (with_reducible exact Ext.refl _) | (with_reducible assumption) | (with_reducible refine Ext.alloc ?_ _) | (with_reducible refine Ext.drew ?_) | (with_reducible refine Ext.drewN ?_ _) | (with_reducible refine Ext.setCell ?_ ?_ _) | (with_reducible refine Ext.trans ?_ (by assumption)))) <;> (first | (with_reducible assumption) | omega | (simp; done) | (simp; omega))); have HB0 := Lib.hid (box1_new w1); obtain ⟨wa, rfl⟩ : ∃ x, x = w1 := ⟨_, rfl⟩) | ((go_at_call 107; refine (HO.out _).mono ?_; rintro e w1 ⟨v0, rfl, hE, ho⟩; replace k0_0 : w1.cell? ⟨w.heap.size, 0, none⟩ = some (.int .i64 (rw n 0)) := (hE.cells _ _ (by first | exact l0 | (simp; done) | (simp; omega))).trans (by first | exact k0_0 | (go_simp; done)); replace k0_1 : w1.cell? ⟨w.heap.size, 1, none⟩ = some (.int .i64 (rw n 1)) := (hE.cells _ _ (by first | exact l0 | (simp; done) | (simp; omega))).trans (by first | exact k0_1 | (go_simp; done)); replace k0_2 : w1.cell? ⟨w.heap.size, 2, none⟩ = some (.int .i64 (rw n 2)) := (hE.cells _ _ (by first | exact l0 | (simp; done) | (simp; omega))).trans (by first | exact k0_2 | (go_simp; done)); replace k0_3 : w1.cell? ⟨w.heap.size, 3, none⟩ = some (.int .i64 (rw n 3)) := (hE.cells _ _ (by first | exact l0 | (simp; done) | (simp; omega))).trans (by first | exact k0_3 | (go_simp; done)); replace k0_4 : w1.cell? ⟨w.heap.size, 4, none⟩ = some (.int .i64 (rw n 4)) := (hE.cells _ _ (by first | exact l0 | (simp; done) | (simp; omega))).trans (by first | exact k0_4 | (go_simp; done)); replace k0_5 : w1.cell? ⟨w.heap.size, 5, none⟩ = some (.int .i64 (rw n 5)) := (hE.cells _ _ (by first | exact l0 | (simp; done) | (simp; omega))).trans (by first | exact k0_5 | (go_simp; done)); replace k1_0 : w1.cell? ⟨w.heap.size + 1, 0, none⟩ = some (.int .i64 (rw m 0)) := (hE.cells _ _ (by first | exact l1 | (simp; done) | (simp; omega))).trans (by first | exact k1_0 | (go_simp; done)); replace k1_1 : w1.cell? ⟨w.heap.size + 1, 1, none⟩ = some (.int .i64 (rw m 1)) := (hE.cells _ _ (by first | exact l1 | (simp; done) | (simp; omega))).trans (by first | exact k1_1 | (go_simp; done)); replace k1_2 : w1.cell? ⟨w.heap.size + 1, 2, none⟩ = some (.int .i64 (rw m 2)) := (hE.cells _ _ (by first | exact l1 | (simp; done) | (simp; omega))).trans (by first | exact k1_2 | (go_simp; done)); replace k1_3 : w1.cell? ⟨w.heap.size + 1, 3, none⟩ = some (.int .i64 (rw m 3)) := (hE.cells _ _ (by first | exact l1 | (simp; done) | (simp; omega))).trans (by first | exact k1_3 | (go_simp; done)); replace k1_4 : w1.cell? ⟨w.heap.size + 1, 4, none⟩ = some (.int .i64 (rw m 4)) := (hE.cells _ _ (by first | exact l1 | (simp; done) | (simp; omega))).trans (by first | exact k1_4 | (go_simp; done)); replace k1_5 : w1.cell? ⟨w.heap.size + 1, 5, none⟩ = some (.int .i64 (rw m 5)) := (hE.cells _ _ (by first | exact l1 | (simp; done) | (simp; omega))).trans (by first | exact k1_5 | (go_simp; done)); replace l0 : w.heap.size < w1.heap.size := Nat.lt_of_lt_of_le (by first | exact l0 | (simp; done) | (simp; omega)) hE.size; replace l1 : w.heap.size + 1 < w1.heap.size := Nat.lt_of_lt_of_le (by first | exact l1 | (simp; done) | (simp; omega)) hE.size; have HW := Lib.hid ho; clear ho); have HX0 := Lib.hid hE; obtain ⟨wb, rfl⟩ : ∃ x, x = w1 := ⟨_, rfl⟩) | (go_at_call 124; refine (HA.out wa.heap.size _ _ (by have := HX0.out.size; simp at this; omega) (own_mono HW.out (by simp)) (box1_stable _ _ _ _ HB0.out HX0.out)).mono ?_; rintro e w1 ⟨r, rfl, ⟨hb1, hb2, hb3⟩, hoff⟩; rw [List.nil_append] at hb2; obtain ⟨wc, rfl⟩ : ∃ x, x = w1 := ⟨_, rfl⟩))
  go_returns
  exact ⟨rfl, Off.ext ((by (repeat' (first | (with_reducible exact Ext.refl _) | (with_reducible assumption) | (with_reducible refine Ext.alloc ?_ _) | (with_reducible refine Ext.drew ?_) | (with_reducible refine Ext.drewN ?_ _) | (with_reducible refine Ext.setCell ?_ ?_ _) | (with_reducible refine Ext.trans ?_ (by assumption)))) <;> (first | (with_reducible assumption) | omega | (simp; done) | (simp; omega))) : Ext w wb) hoff (fun k hk => by subst hk; have := hxa.size; omega)⟩
end Go.Proofs.Ytlifhoajamnehaa
set_option linter.unusedVariables false
set_option linter.unusedSimpArgs false
set_option maxRecDepth 100000
set_option maxHeartbeats 4000000
namespace Go.Proofs.Ytlifhoajamnehaa
open Go Go.RowKit Instr
theorem values_n (a : Option Addr) (len cap : Nat) (w : World) :
    Calls Try.prog 127 #[.slice a len cap] w fun e w' => e = .returned (.func (.func 161) #[] #[.pointer (some ⟨w.heap.size, 0, none⟩)]) ∧ w' = w.alloc (.cells #[.slice a len cap] 44) := by
  go_enter Try.func127, Try.ntmps127
  go_wp2
  go_ret
  exact ⟨rfl, rfl⟩
theorem collect_n (Bs : Nat) (v : Value) (D : List Nat) (hl : D.length ≤ 1000) (w : World) (hBs : Bs < w.heap.size) (hc : w.cell? ⟨Bs, 0, none⟩ = some v) (hI : Rds w.heap.size w v D) :
    Calls Try.prog 159 #[.func (.func 161) #[] #[.pointer (some ⟨Bs, 0, none⟩)]] w fun e w' => ∃ u, e = .returned u ∧ Ext w w' ∧ w'.ownsRow w.heap.size 3 1 u D.length (ints D) := by
  have H := Lib.hid (appendSeq_n Bs v D hl w hBs hc hI)
  clear hc hI
  go_enter Try.func159, Try.ntmps159
  go_wp2_with (go_at_call 167; refine H.out.mono ?_; rintro e w1 ⟨u, rfl, hE, ho⟩; have HO := Lib.hid ho; clear ho)
  go_returns
  exact ⟨_, rfl, hE, HO.out⟩
theorem sorted_n (Bs : Nat) (v : Value) (D : List Nat) (hl : D.length ≤ 1000) (w : World) (hBs : Bs < w.heap.size) (hc : w.cell? ⟨Bs, 0, none⟩ = some v) (hI : Rds w.heap.size w v D) :
    Calls Try.prog 126 #[.func (.func 161) #[] #[.pointer (some ⟨Bs, 0, none⟩)]] w fun e w' => ∃ u, e = .returned u ∧ Ext w w' ∧ w'.ownsRow w.heap.size 3 1 u D.length (ints (srt D)) := by
  have H := Lib.hid (collect_n Bs v D hl w hBs hc hI)
  clear hc hI
  have HS := Lib.hid (fun B v w hB ho => sort_n D hl B v w hB ho)
  go_enter Try.func126, Try.ntmps126
  go_wp2_with (first | (go_at_call 159; refine H.out.mono ?_; rintro e w1 ⟨u, rfl, hE, ho⟩; have HO := Lib.hid ho; clear ho; have HX := Lib.hid hE; clear hE; obtain ⟨wa, rfl⟩ : ∃ x, x = w1 := ⟨_, rfl⟩) | (go_at_call 160; refine (HS.out _ _ _ HX.out.size HO.out).mono ?_; rintro e w2 ⟨rfl, hb, ho⟩; have HP := Lib.hid ho; have HB := Lib.hid hb; clear ho hb))
  go_returns
  exact ⟨_, rfl, .of (Below.trans HX.out.below HB.out), HP.out⟩
theorem isNaNI_n (a : Int) (w : World) : Calls Try.prog 170 #[.int .i64 a] w fun e w' => e = .returned (.bool false) ∧ w = w' := by
  go_enter Try.func170, Try.ntmps170
  go_wp2
  go_returns
  exact ⟨by simp, rfl⟩
theorem compareI_lt (a b : Nat) (h : a < b) (w : World) : Calls Try.prog 162 #[.int .i64 (a : Int), .int .i64 (b : Int)] w fun e w' => e = .returned (.int .i64 (-1)) ∧ w = w' := by
  have hd : decide ((a : Int) < b) = true := by simp; omega
  go_enter Try.func162, Try.ntmps162
  go_wp2_with (go_at_call 170; refine (isNaNI_n _ _).mono ?_; rintro e w' ⟨rfl, rfl⟩)
  go_returns
  exact ⟨rfl, rfl⟩
theorem compareI_gt (a b : Nat) (h : b < a) (w : World) : Calls Try.prog 162 #[.int .i64 (a : Int), .int .i64 (b : Int)] w fun e w' => e = .returned (.int .i64 1) ∧ w = w' := by
  have hd : decide ((a : Int) < b) = false := by simp; omega
  have hd2 : decide ((b : Int) < a) = true := by simp; omega
  go_enter Try.func162, Try.ntmps162
  go_wp2_with (go_at_call 170; refine (isNaNI_n _ _).mono ?_; rintro e w' ⟨rfl, rfl⟩)
  go_returns
  exact ⟨rfl, rfl⟩
theorem compareI_eq (a : Nat) (w : World) : Calls Try.prog 162 #[.int .i64 (a : Int), .int .i64 (a : Int)] w fun e w' => e = .returned (.int .i64 0) ∧ w = w' := by
  go_enter Try.func162, Try.ntmps162
  go_wp2_with (go_at_call 170; refine (isNaNI_n _ _).mono ?_; rintro e w' ⟨rfl, rfl⟩)
  go_returns
  exact ⟨rfl, rfl⟩
theorem cmpN_at {A B : List Nat} {k a b : Nat} (ha : A[k]? = some a) (hb : B[k]? = some b) : cmpN (A.drop k) (B.drop k) = if a < b then -1 else if b < a then 1 else cmpN (A.drop (k + 1)) (B.drop (k + 1)) := by
  obtain ⟨h1, h2⟩ := List.getElem?_eq_some_iff.1 ha
  obtain ⟨h3, h4⟩ := List.getElem?_eq_some_iff.1 hb
  rw [List.drop_eq_getElem_cons h1, List.drop_eq_getElem_cons h3, cmpN, h2, h4]
theorem compare_n (A B : List Nat) (BA BB : Nat) (v u : Value) (w : World) (hA : w.ownsRow BA 3 1 v A.length (ints A)) (hB : w.ownsRow BB 3 1 u B.length (ints B)) (hla : A.length ≤ 1000) (hlb : B.length ≤ 1000) :
    Calls Try.prog 128 #[v, u] w fun e w' => e = .returned (.int .i64 (cmpN A B)) ∧ w' = w := by
  obtain ⟨ao, cap, rfl, hsa⟩ := own_shape hA
  obtain ⟨bo, cbp, rfl, hsb⟩ := own_shape hB
  have HA := Lib.hid hA
  have HB := Lib.hid hB
  clear hA hB
  go_enter Try.func128, Try.ntmps128
  go_wp2
  go_loopw [11] (fun i wr => ∃ k : Nat, k ≤ A.length ∧ k ≤ B.length ∧ i = .int .i64 (k : Int) ∧ wr = w ∧ cmpN A B = cmpN (A.drop k) (B.drop k)) (fun i _ => A.length - (intOf i).toNat)
  case atStart => exact ⟨0, Nat.zero_le _, Nat.zero_le _, rfl, rfl, rfl⟩
  case round =>
    obtain ⟨k, hk, hkb, rfl, rfl, hcm⟩ := hrel
    obtain ⟨wo, rfl⟩ : ∃ wo : World, wo = wr := ⟨_, rfl⟩
    by_cases hlt : k < A.length
    · obtain ⟨ab, rfl, _, hab⟩ := hsa (by omega)
      obtain ⟨a, ha⟩ : ∃ a, A[k]? = some a := ⟨A[k], List.getElem?_eq_getElem hlt⟩
      have c1 := (HA.out.cellAt k (by omega)).trans (ints_get A k a ha)
      by_cases hltb : k < B.length
      · obtain ⟨bb, rfl, _, hbb⟩ := hsb (by omega)
        obtain ⟨b, hb⟩ : ∃ b, B[k]? = some b := ⟨B[k], List.getElem?_eq_getElem hltb⟩
        have c2 := (HB.out.cellAt k (by omega)).trans (ints_get B k b hb)
        rw [cmpN_at ha hb] at hcm
        clear ha hb
        by_cases h1 : a < b
        · rw [if_pos h1] at hcm
          have HC := Lib.hid (fun w => compareI_lt a b h1 w)
          have HM := Lib.hid hcm
          clear hcm h1
          go_wp2_with (go_at_call 162; refine (HC.out _).mono ?_; rintro e w' ⟨rfl, rfl⟩)
          go_returns
          exact ⟨by rw [HM.out]; rfl, rfl⟩
        · rw [if_neg h1] at hcm
          by_cases h2 : b < a
          · rw [if_pos h2] at hcm
            have HC := Lib.hid (fun w => compareI_gt a b h2 w)
            have HM := Lib.hid hcm
            clear hcm h1 h2
            go_wp2_with (go_at_call 162; refine (HC.out _).mono ?_; rintro e w' ⟨rfl, rfl⟩)
            go_returns
            exact ⟨by rw [HM.out]; rfl, rfl⟩
          · rw [if_neg h2] at hcm
            obtain rfl : a = b := by omega
            have HC := Lib.hid (fun w => compareI_eq a w)
            have HM := Lib.hid hcm
            clear hcm h1 h2
            go_wp2_with (go_at_call 162; refine (HC.out _).mono ?_; rintro e w' ⟨rfl, rfl⟩)
            refine ⟨⟨k + 1, by omega, by omega, by go_num, trivial, HM.out⟩, by simp [intOf]; omega⟩
      · obtain rfl : k = B.length := by omega
        have HM := Lib.hid (show cmpN A B = 1 by rw [hcm, List.drop_length, List.drop_eq_getElem_cons hlt, cmpN])
        clear hcm ha
        go_wp2
        go_returns
        exact ⟨by rw [HM.out]; rfl, rfl⟩
    · obtain rfl : k = A.length := by omega
      rw [List.drop_length] at hcm
      by_cases hltb : A.length < B.length
      · have HM := Lib.hid (show cmpN A B = -1 by rw [hcm, List.drop_eq_getElem_cons hltb, cmpN])
        clear hcm
        go_wp2
        go_returns
        exact ⟨by rw [HM.out]; rfl, rfl⟩
      · have HM := Lib.hid (show cmpN A B = 0 by rw [hcm, List.drop_eq_nil_of_le (by omega), cmpN])
        clear hcm
        go_wp2
        go_returns
        exact ⟨by rw [HM.out]; rfl, rfl⟩
end Go.Proofs.Ytlifhoajamnehaa
set_option linter.unusedVariables false
set_option linter.unusedSimpArgs false
set_option maxRecDepth 100000
set_option maxHeartbeats 4000000
namespace Go.Proofs.Ytlifhoajamnehaa
open Go Go.RowKit Instr
/-- the boxes of 'best' (c) and 'found' (c + 1) -/
def FBox (c : Nat) (acc : List (List Nat)) (w : World) : Prop :=
  c + 1 < w.heap.size ∧ w.frozen? ⟨c, 0, none⟩ = false ∧ w.frozen? ⟨c + 1, 0, none⟩ = false ∧ ∃ (v : Value) (b : Option (List Nat)), w.cell? ⟨c, 0, none⟩ = some v ∧ w.cell? ⟨c + 1, 0, none⟩ = some (.bool b.isSome) ∧ Lst1 (acc.map srt) b ∧ w.ownsRow (c + 2) 3 1 v (b.getD []).length (ints (b.getD [])) ∧ (b.getD []).length ≤ 36
theorem fbox_stable (c : Nat) (acc : List (List Nat)) (w w' : World) (h : FBox c acc w) (hx : Ext w w') : FBox c acc w' := by
  obtain ⟨z, f0, f1, v, b, c0, c1, hl, hv, hn⟩ := h
  exact ⟨Nat.lt_of_lt_of_le z hx.size, (hx.frees _ _ (by omega)).trans f0, (hx.frees _ _ z).trans f1, v, b, (hx.cells _ _ (by omega)).trans c0, (hx.cells _ _ z).trans c1, hl, own_ext hv hx, hn⟩
theorem fbox_set {c : Nat} {acc : List (List Nat)} {L : List Nat} {s v0 x0 : Value} {w : World} (z : c + 1 < w.heap.size) (f0 : w.frozen? ⟨c, 0, none⟩ = false) (f1 : w.frozen? ⟨c + 1, 0, none⟩ = false) (c0 : w.cell? ⟨c, 0, none⟩ = some v0) (c1 : w.cell? ⟨c + 1, 0, none⟩ = some x0)
    (hs : w.ownsRow (c + 2) 3 1 s L.length (ints L)) (hn : L.length ≤ 36) (hL : Lst1 (acc.map srt) (some L)) : FBox c acc ((w.setCell ⟨c, 0, none⟩ s).setCell ⟨c + 1, 0, none⟩ (.bool true)) := by
  have ho : Off (fun k => k = c ∨ k = c + 1) w ((w.setCell ⟨c, 0, none⟩ s).setCell ⟨c + 1, 0, none⟩ (.bool true)) := Off.set (S := fun k => k = c ∨ k = c + 1) (Off.set (S := fun k => k = c ∨ k = c + 1) (Off.refl _ _) (p := ⟨c, 0, none⟩) (.inl rfl) _) (p := ⟨c + 1, 0, none⟩) (.inr rfl) _
  have g1 : (w.setCell ⟨c, 0, none⟩ s).cell? ⟨c + 1, 0, none⟩ = some x0 := (World.cell?_of_block (a := ⟨c + 1, 0, none⟩) (heap_setCell_other w ⟨c, 0, none⟩ (c + 1) s (by simp))).trans c1
  refine ⟨Nat.lt_of_lt_of_le z ho.size, by rw [World.frozen?_setCell, World.frozen?_setCell]; exact f0, by rw [World.frozen?_setCell, World.frozen?_setCell]; exact f1, s, some L, ?_, World.cell?_setCell_same _ _ _ g1, hL, ho.own hs (fun k hk => by omega) (Nat.le_refl _), hn⟩
  exact (World.cell?_of_block (a := ⟨c, 0, none⟩) (heap_setCell_other _ ⟨c + 1, 0, none⟩ c _ (by simp))).trans (World.cell?_setCell_same _ _ _ c0)
theorem FirstTiling1_n (c : Nat) (acc : List (List Nat)) (D : List Nat) (hl : D.length ≤ 36) (u : Value) (w : World) (hC : c + 2 ≤ w.heap.size) (hb : FBox c acc w) (hu : w.ownsRow (c + 2) 3 1 u D.length (ints D)) :
    Calls Try.prog 125 (#[u] ++ #[.pointer (some ⟨c + 1, 0, none⟩), .pointer (some ⟨c, 0, none⟩)]) w fun e w' => ∃ r, e = .returned r ∧ FBox c (acc ++ [D]) w' ∧ Off (fun k => k = c ∨ k = c + 1) w w' := by
  obtain ⟨z, f0, f1, v, b, c0, c1, hlst, hv, hvl⟩ := hb
  obtain ⟨uo, uc, rfl, _⟩ := own_shape hu
  obtain ⟨vo, vc, rfl, _⟩ := own_shape hv
  have hX0 : Ext w (w.alloc (.cells #[.slice uo D.length uc] 44)) := (Ext.refl w).alloc _
  have HSO := Lib.hid (sorted_n w.heap.size _ D (by omega) (w.alloc (.cells #[.slice uo D.length uc] 44)) (by simp) (World.cell?_alloc_at _ _ _ _ rfl) (rds_own (own_ext hu hX0)))
  have HX0 := Lib.hid hX0
  have e1 : (srt D).length = D.length := (srt_perm D).length_eq
  rw [← e1] at HSO HX0 ⊢
  have HV := Lib.hid hv
  have HL := Lib.hid hlst
  have HLA := Lib.hid (show (acc ++ [D]).map srt = acc.map srt ++ [srt D] by simp)
  have hl2 : (srt D).length ≤ 36 := by omega
  have HCM := Lib.hid (fun A B BA BB v u w hA hB h1 h2 => compare_n A B BA BB v u w hA hB h1 h2)
  clear hu hv hlst hX0
  clear e1
  generalize srt D = S at *
  cases b with
  | none =>
    have HN := Lib.hid (show Lst1 ((acc ++ [D]).map srt) (some S) by
      rw [HLA.out, lst1_none HL.out]; exact lst1_first S)
    simp only [Option.isSome_none] at c1
    go_enter Try.func125, Try.ntmps125
    go_wp2_with (first | (go_at_call 127; refine (values_n _ _ _ _).mono ?_; rintro e w1 ⟨rfl, rfl⟩) | (go_at_call 126; refine HSO.out.mono ?_; rintro e w1 ⟨s, rfl, hE, ho⟩; obtain ⟨so, sc, rfl, _⟩ := own_shape ho; have HX := Lib.hid (HX0.out.trans hE); have HS := Lib.hid (own_mono (B' := c + 2) ho (by simp; omega)); have g0 := (HX.out.cells _ _ (Nat.lt_of_succ_lt z)).trans c0; have g1 := (HX.out.cells _ _ z).trans c1; have h0 := (HX.out.frees _ _ (Nat.lt_of_succ_lt z)).trans f0; have h1 := (HX.out.frees _ _ z).trans f1; have z1 := Nat.lt_of_lt_of_le z HX.out.size; clear hE ho; obtain ⟨wa, rfl⟩ : ∃ x, x = w1 := ⟨_, rfl⟩))
    go_returns
    exact ⟨_, rfl, fbox_set z1 h0 h1 g0 g1 HS.out hl2 HN.out, Off.set (S := fun k => k = c ∨ k = c + 1) (Off.set (S := fun k => k = c ∨ k = c + 1) (HX.out.off _) (p := ⟨c, 0, none⟩) (.inl rfl) _) (p := ⟨c + 1, 0, none⟩) (.inr rfl) _⟩
  | some Y =>
    simp only [Option.isSome_some, Option.getD_some] at c1 c0 HV hvl
    obtain ⟨q, hq⟩ : ∃ q, q = cmpN S Y := ⟨_, rfl⟩
    have hcase : (decide (q < 0) = true ∧ Lst1 ((acc ++ [D]).map srt) (some S)) ∨ (decide (q < 0) = false ∧ Lst1 ((acc ++ [D]).map srt) (some Y)) := by
      rw [HLA.out]
      by_cases h : q < 0
      · exact .inl ⟨decide_eq_true h, lst1_new HL.out S (hq ▸ h)⟩
      · exact .inr ⟨decide_eq_false h, lst1_old HL.out S (hq ▸ h)⟩
    have HQ := Lib.hid hq
    clear hq
    rcases hcase with ⟨hd, hn⟩ | ⟨hd, hn⟩
    all_goals
      have HN := Lib.hid hn
      clear hn
      go_enter Try.func125, Try.ntmps125
      go_wp2_with (first | (go_at_call 127; refine (values_n _ _ _ _).mono ?_; rintro e w1 ⟨rfl, rfl⟩) | (go_at_call 126; refine HSO.out.mono ?_; rintro e w1 ⟨s, rfl, hE, ho⟩; obtain ⟨so, sc, rfl, _⟩ := own_shape ho; have HX := Lib.hid (HX0.out.trans hE); have HS := Lib.hid (own_mono (B' := c + 2) ho (by simp; omega)); have g0 := (HX.out.cells _ _ (Nat.lt_of_succ_lt z)).trans c0; have g1 := (HX.out.cells _ _ z).trans c1; have h0 := (HX.out.frees _ _ (Nat.lt_of_succ_lt z)).trans f0; have h1 := (HX.out.frees _ _ z).trans f1; have z1 := Nat.lt_of_lt_of_le z HX.out.size; have HV1 := Lib.hid (own_ext HV.out HX.out); clear hE ho; obtain ⟨wa, rfl⟩ : ∃ x, x = w1 := ⟨_, rfl⟩) | (go_at_call 128; refine (HCM.out S Y _ _ _ _ _ HS.out HV1.out (by omega) (by omega)).mono ?_; rintro e w1 ⟨rfl, rfl⟩; rw [← HQ.out]))
      go_returns
    · exact ⟨_, rfl, fbox_set z1 h0 h1 g0 g1 HS.out hl2 HN.out, Off.set (S := fun k => k = c ∨ k = c + 1) (Off.set (S := fun k => k = c ∨ k = c + 1) (HX.out.off _) (p := ⟨c, 0, none⟩) (.inl rfl) _) (p := ⟨c + 1, 0, none⟩) (.inr rfl) _⟩
    · exact ⟨_, rfl, ⟨z1, h0, h1, _, some Y, g0, g1, HN.out, HV1.out, hvl⟩, HX.out.off _⟩
theorem fbox_new (w : World) : FBox w.heap.size [] ((w.alloc (.cells #[.slice none 0 0] 44)).alloc (.cells #[.bool false] 4)) := by
  refine ⟨by simp, ?_, World.frozen?_alloc_at _ _ _ _ (by simp), .slice none 0 0, none, ?_, World.cell?_alloc_at _ _ _ _ (by simp), lst1_0, World.ownsRow_nil _ _ _ _, Nat.zero_le _⟩
  · exact (((Ext.refl _).alloc (.cells #[.bool false] 4)).frees w.heap.size 0 (by simp)).trans (World.frozen?_alloc_at _ _ _ _ rfl)
  · exact (((Ext.refl _).alloc (.cells #[.bool false] 4)).cells w.heap.size 0 (by simp)).trans (World.cell?_alloc_at _ _ _ _ rfl)
theorem FirstTiling_bad (r s : Nat → Int) (h : tiB r s = false) (w : World) : Calls Try.prog 62 #[(.agg #[.int .i64 (r 0), .int .i64 (r 1), .int .i64 (r 2), .int .i64 (r 3), .int .i64 (r 4), .int .i64 (r 5)]), (.agg #[.int .i64 (s 0), .int .i64 (s 1), .int .i64 (s 2), .int .i64 (s 3), .int .i64 (s 4), .int .i64 (s 5)])] w fun e w' => ∃ v, e = .returned (.tuple #[v, .bool false]) ∧ Ext w w' ∧ w'.ownsRow w.heap.size 33 2 v 0 [] := by
  have H := Lib.hid (fun w => areTiled_bad r s h w)
  clear h
  skip
  go_enter Try.func62, Try.ntmps62
  go_wp2_with (go_at_call 123; refine (H.out _).mono ?_; rintro e w1 ⟨rfl, hE⟩; replace k0_0 : w1.cell? ⟨w.heap.size, 0, none⟩ = some (.int .i64 (r 0)) := (hE.cells _ _ (by first | exact l0 | (simp; done) | (simp; omega))).trans (by first | exact k0_0 | (go_simp; done)); replace k0_1 : w1.cell? ⟨w.heap.size, 1, none⟩ = some (.int .i64 (r 1)) := (hE.cells _ _ (by first | exact l0 | (simp; done) | (simp; omega))).trans (by first | exact k0_1 | (go_simp; done)); replace k0_2 : w1.cell? ⟨w.heap.size, 2, none⟩ = some (.int .i64 (r 2)) := (hE.cells _ _ (by first | exact l0 | (simp; done) | (simp; omega))).trans (by first | exact k0_2 | (go_simp; done)); replace k0_3 : w1.cell? ⟨w.heap.size, 3, none⟩ = some (.int .i64 (r 3)) := (hE.cells _ _ (by first | exact l0 | (simp; done) | (simp; omega))).trans (by first | exact k0_3 | (go_simp; done)); replace k0_4 : w1.cell? ⟨w.heap.size, 4, none⟩ = some (.int .i64 (r 4)) := (hE.cells _ _ (by first | exact l0 | (simp; done) | (simp; omega))).trans (by first | exact k0_4 | (go_simp; done)); replace k0_5 : w1.cell? ⟨w.heap.size, 5, none⟩ = some (.int .i64 (r 5)) := (hE.cells _ _ (by first | exact l0 | (simp; done) | (simp; omega))).trans (by first | exact k0_5 | (go_simp; done)); replace k1_0 : w1.cell? ⟨w.heap.size + 1, 0, none⟩ = some (.int .i64 (s 0)) := (hE.cells _ _ (by first | exact l1 | (simp; done) | (simp; omega))).trans (by first | exact k1_0 | (go_simp; done)); replace k1_1 : w1.cell? ⟨w.heap.size + 1, 1, none⟩ = some (.int .i64 (s 1)) := (hE.cells _ _ (by first | exact l1 | (simp; done) | (simp; omega))).trans (by first | exact k1_1 | (go_simp; done)); replace k1_2 : w1.cell? ⟨w.heap.size + 1, 2, none⟩ = some (.int .i64 (s 2)) := (hE.cells _ _ (by first | exact l1 | (simp; done) | (simp; omega))).trans (by first | exact k1_2 | (go_simp; done)); replace k1_3 : w1.cell? ⟨w.heap.size + 1, 3, none⟩ = some (.int .i64 (s 3)) := (hE.cells _ _ (by first | exact l1 | (simp; done) | (simp; omega))).trans (by first | exact k1_3 | (go_simp; done)); replace k1_4 : w1.cell? ⟨w.heap.size + 1, 4, none⟩ = some (.int .i64 (s 4)) := (hE.cells _ _ (by first | exact l1 | (simp; done) | (simp; omega))).trans (by first | exact k1_4 | (go_simp; done)); replace k1_5 : w1.cell? ⟨w.heap.size + 1, 5, none⟩ = some (.int .i64 (s 5)) := (hE.cells _ _ (by first | exact l1 | (simp; done) | (simp; omega))).trans (by first | exact k1_5 | (go_simp; done)); replace l0 : w.heap.size < w1.heap.size := Nat.lt_of_lt_of_le (by first | exact l0 | (simp; done) | (simp; omega)) hE.size; replace l1 : w.heap.size + 1 < w1.heap.size := Nat.lt_of_lt_of_le (by first | exact l1 | (simp; done) | (simp; omega)) hE.size)
  go_returns
  exact ⟨_, rfl, (by (repeat' (first | (with_reducible exact Ext.refl _) | (with_reducible assumption) | (with_reducible refine Ext.alloc ?_ _) | (with_reducible refine Ext.drew ?_) | (with_reducible refine Ext.drewN ?_ _) | (with_reducible refine Ext.setCell ?_ ?_ _) | (with_reducible refine Ext.trans ?_ (by assumption)))) <;> (first | (with_reducible assumption) | omega | (simp; done) | (simp; omega))), World.ownsRow_nil _ _ _ _⟩
theorem tl_mem {f : Nat → Nat} {p : Nat → Bool} {z : Nat} {T : List Nat} (h : (tl f (fl p 36) z []).head? = some T) : (∀ i k : Nat, T[i]? = some k → k < 36) ∧ T.length ≤ 36 := by
  have hm := List.mem_of_mem_head? h
  obtain ⟨S, rfl, h1, _⟩ := tl_til _ z [] T hm
  refine ⟨fun i k hk => ?_, Nat.le_trans h1.length_le (fl_le _ _)⟩
  obtain ⟨j, hj⟩ := List.getElem?_of_mem (h1.subset (List.mem_of_getElem? hk))
  exact fl_lt hj
theorem FirstTiling_ok (n m : Nat) (hn : n < 68719476736) (hm : m < 68719476736) (h : (decide (n ≠ 0) && decide (cnt m ≤ 12)) = true) (TL : Option (List Nat)) (hTL : TL = (tl (pr6 n) (fl (opP n m) 36) m []).head?) (w : World) : Calls Try.prog 62 #[(.agg #[.int .i64 (rw n 0), .int .i64 (rw n 1), .int .i64 (rw n 2), .int .i64 (rw n 3), .int .i64 (rw n 4), .int .i64 (rw n 5)]), (.agg #[.int .i64 (rw m 0), .int .i64 (rw m 1), .int .i64 (rw m 2), .int .i64 (rw m 3), .int .i64 (rw m 4), .int .i64 (rw m 5)])] w fun e w' => ∃ v, e = .returned (.tuple #[v, .bool TL.isSome]) ∧ Ext w w' ∧ w'.ownsRow w.heap.size 33 2 v (TL.getD []).length (pxy (TL.getD [])) := by
  have H := Lib.hid (fun w => areTiled_n n m hn hm true h w)
  have h0 : n ≠ 0 := of_decide_eq_true (Bool.and_eq_true_iff.1 h).1
  have HO := Lib.hid (fun w => open_n n m hm hn w)
  have HTL := Lib.hid (tI_len (pr6 n) (pr6_lt n) (pr6_ne hn h0) (fl (opP n m) 36) 37 m [] (by have := cnt_le m; omega) hm)
  have HTB := Lib.hid (show cT (pr6 n) (fl (opP n m) 36) m ≤ 68719476736 from Nat.le_trans (cT_le _ _ _) (Nat.le_trans (Nat.pow_le_pow_right (by omega) (fl_le _ _)) (by decide)))
  have HF := Lib.hid (fun b hb => (first_is (pr6_lt n) (pr6_ne hn h0) (asc_fl (opP n m) 36) m hm 37 (by have := cnt_le m; omega) b hb).trans hTL.symm)
  have HY := Lib.hid (fun T (e : TL = some T) => tl_mem (hTL.symm.trans e))
  have HCO := Lib.hid (fun T (hT : (∀ i k : Nat, T[i]? = some k → k < 36) ∧ T.length ≤ 36) B v w ho => cellsOf_n T hT.1 (by omega) B v w ho)
  have HA := Lib.hid (fun (c : Nat) (v : Value) (w : World) (hC : c + 2 ≤ w.heap.size) (hv : w.ownsRow (c + 2) 3 1 v (fl (opP n m) 36).length (ints (fl (opP n m) 36))) (hk : FBox c [] w) =>
    tilings_n n hn h0 (fl (opP n m) 36) (fun i k h => fl_lt h) (fl_le _ _) 125 #[.pointer (some ⟨c + 1, 0, none⟩), .pointer (some ⟨c, 0, none⟩)] Try.call125 (fun k => k = c ∨ k = c + 1) (c + 2) (fun k h => by omega) (FBox c) (fbox_stable c) (fun acc D u w _ hd hC hb hu => FirstTiling1_n c acc D hd u w hC hb hu) 37 m (by have := cnt_le m; omega) hm [] [] v (.slice none 0 0) w hC hv (World.ownsRow_nil _ _ _ _) (by have := cnt_le m; simp; omega) hk (by rw [HTL.out]; have := HTB.out; simp; omega))
  clear h h0 hTL HTL HTB
  generalize fl (opP n m) 36 = L at *
  generalize tI (pr6 n) L 37 m [] = TT at *
  skip
  go_enter Try.func62, Try.ntmps62
  go_wp2_with (first | ((go_at_call 123; refine (H.out _).mono ?_; rintro e w1 ⟨rfl, hE⟩; replace k0_0 : w1.cell? ⟨w.heap.size, 0, none⟩ = some (.int .i64 (rw n 0)) := (hE.cells _ _ (by first | exact l0 | (simp; done) | (simp; omega))).trans (by first | exact k0_0 | (go_simp; done)); replace k0_1 : w1.cell? ⟨w.heap.size, 1, none⟩ = some (.int .i64 (rw n 1)) := (hE.cells _ _ (by first | exact l0 | (simp; done) | (simp; omega))).trans (by first | exact k0_1 | (go_simp; done)); replace k0_2 : w1.cell? ⟨w.heap.size, 2, none⟩ = some (.int .i64 (rw n 2)) := (hE.cells _ _ (by first | exact l0 | (simp; done) | (simp; omega))).trans (by first | exact k0_2 | (go_simp; done)); replace k0_3 : w1.cell? ⟨w.heap.size, 3, none⟩ = some (.int .i64 (rw n 3)) := (hE.cells _ _ (by first | exact l0 | (simp; done) | (simp; omega))).trans (by first | exact k0_3 | (go_simp; done)); replace k0_4 : w1.cell? ⟨w.heap.size, 4, none⟩ = some (.int .i64 (rw n 4)) := (hE.cells _ _ (by first | exact l0 | (simp; done) | (simp; omega))).trans (by first | exact k0_4 | (go_simp; done)); replace k0_5 : w1.cell? ⟨w.heap.size, 5, none⟩ = some (.int .i64 (rw n 5)) := (hE.cells _ _ (by first | exact l0 | (simp; done) | (simp; omega))).trans (by first | exact k0_5 | (go_simp; done)); replace k1_0 : w1.cell? ⟨w.heap.size + 1, 0, none⟩ = some (.int .i64 (rw m 0)) := (hE.cells _ _ (by first | exact l1 | (simp; done) | (simp; omega))).trans (by first | exact k1_0 | (go_simp; done)); replace k1_1 : w1.cell? ⟨w.heap.size + 1, 1, none⟩ = some (.int .i64 (rw m 1)) := (hE.cells _ _ (by first | exact l1 | (simp; done) | (simp; omega))).trans (by first | exact k1_1 | (go_simp; done)); replace k1_2 : w1.cell? ⟨w.heap.size + 1, 2, none⟩ = some (.int .i64 (rw m 2)) := (hE.cells _ _ (by first | exact l1 | (simp; done) | (simp; omega))).trans (by first | exact k1_2 | (go_simp; done)); replace k1_3 : w1.cell? ⟨w.heap.size + 1, 3, none⟩ = some (.int .i64 (rw m 3)) := (hE.cells _ _ (by first | exact l1 | (simp; done) | (simp; omega))).trans (by first | exact k1_3 | (go_simp; done)); replace k1_4 : w1.cell? ⟨w.heap.size + 1, 4, none⟩ = some (.int .i64 (rw m 4)) := (hE.cells _ _ (by first | exact l1 | (simp; done) | (simp; omega))).trans (by first | exact k1_4 | (go_simp; done)); replace k1_5 : w1.cell? ⟨w.heap.size + 1, 5, none⟩ = some (.int .i64 (rw m 5)) := (hE.cells _ _ (by first | exact l1 | (simp; done) | (simp; omega))).trans (by first | exact k1_5 | (go_simp; done)); replace l0 : w.heap.size < w1.heap.size := Nat.lt_of_lt_of_le (by first | exact l0 | (simp; done) | (simp; omega)) hE.size; replace l1 : w.heap.size + 1 < w1.heap.size := Nat.lt_of_lt_of_le (by first | exact l1 | (simp; done) | (simp; omega)) hE.size); have hxa : Ext w w1 := (by (repeat' (first | (with_reducible exact Ext.refl _) | (with_reducible assumption) | (with_reducible refine Ext.alloc ?_ _) | (with_reducible refine Ext.drew ?_) | (with_reducible refine Ext.drewN ?_ _) | (with_reducible refine Ext.setCell ?_ ?_ _) | (with_reducible refine Ext.trans ?_ (by assumption)))) <;> (first | (with_reducible assumption) | omega | (simp; done) | (simp; omega))); have HB0 := Lib.hid (fbox_new w1); obtain ⟨wa, rfl⟩ : ∃ x, x = w1 := ⟨_, rfl⟩) | ((go_at_call 107; refine (HO.out _).mono ?_; rintro e w1 ⟨v0, rfl, hE, ho⟩; replace k0_0 : w1.cell? ⟨w.heap.size, 0, none⟩ = some (.int .i64 (rw n 0)) := (hE.cells _ _ (by first | exact l0 | (simp; done) | (simp; omega))).trans (by first | exact k0_0 | (go_simp; done)); replace k0_1 : w1.cell? ⟨w.heap.size, 1, none⟩ = some (.int .i64 (rw n 1)) := (hE.cells _ _ (by first | exact l0 | (simp; done) | (simp; omega))).trans (by first | exact k0_1 | (go_simp; done)); replace k0_2 : w1.cell? ⟨w.heap.size, 2, none⟩ = some (.int .i64 (rw n 2)) := (hE.cells _ _ (by first | exact l0 | (simp; done) | (simp; omega))).trans (by first | exact k0_2 | (go_simp; done)); replace k0_3 : w1.cell? ⟨w.heap.size, 3, none⟩ = some (.int .i64 (rw n 3)) := (hE.cells _ _ (by first | exact l0 | (simp; done) | (simp; omega))).trans (by first | exact k0_3 | (go_simp; done)); replace k0_4 : w1.cell? ⟨w.heap.size, 4, none⟩ = some (.int .i64 (rw n 4)) := (hE.cells _ _ (by first | exact l0 | (simp; done) | (simp; omega))).trans (by first | exact k0_4 | (go_simp; done)); replace k0_5 : w1.cell? ⟨w.heap.size, 5, none⟩ = some (.int .i64 (rw n 5)) := (hE.cells _ _ (by first | exact l0 | (simp; done) | (simp; omega))).trans (by first | exact k0_5 | (go_simp; done)); replace k1_0 : w1.cell? ⟨w.heap.size + 1, 0, none⟩ = some (.int .i64 (rw m 0)) := (hE.cells _ _ (by first | exact l1 | (simp; done) | (simp; omega))).trans (by first | exact k1_0 | (go_simp; done)); replace k1_1 : w1.cell? ⟨w.heap.size + 1, 1, none⟩ = some (.int .i64 (rw m 1)) := (hE.cells _ _ (by first | exact l1 | (simp; done) | (simp; omega))).trans (by first | exact k1_1 | (go_simp; done)); replace k1_2 : w1.cell? ⟨w.heap.size + 1, 2, none⟩ = some (.int .i64 (rw m 2)) := (hE.cells _ _ (by first | exact l1 | (simp; done) | (simp; omega))).trans (by first | exact k1_2 | (go_simp; done)); replace k1_3 : w1.cell? ⟨w.heap.size + 1, 3, none⟩ = some (.int .i64 (rw m 3)) := (hE.cells _ _ (by first | exact l1 | (simp; done) | (simp; omega))).trans (by first | exact k1_3 | (go_simp; done)); replace k1_4 : w1.cell? ⟨w.heap.size + 1, 4, none⟩ = some (.int .i64 (rw m 4)) := (hE.cells _ _ (by first | exact l1 | (simp; done) | (simp; omega))).trans (by first | exact k1_4 | (go_simp; done)); replace k1_5 : w1.cell? ⟨w.heap.size + 1, 5, none⟩ = some (.int .i64 (rw m 5)) := (hE.cells _ _ (by first | exact l1 | (simp; done) | (simp; omega))).trans (by first | exact k1_5 | (go_simp; done)); replace l0 : w.heap.size < w1.heap.size := Nat.lt_of_lt_of_le (by first | exact l0 | (simp; done) | (simp; omega)) hE.size; replace l1 : w.heap.size + 1 < w1.heap.size := Nat.lt_of_lt_of_le (by first | exact l1 | (simp; done) | (simp; omega)) hE.size; have HW := Lib.hid ho; clear ho); have HX0 := Lib.hid hE; obtain ⟨wb, rfl⟩ : ∃ x, x = w1 := ⟨_, rfl⟩) | (go_at_call 124; refine (HA.out wa.heap.size _ _ (by have := HX0.out.size; simp at this; omega) (own_mono HW.out (by simp)) (fbox_stable _ _ _ _ HB0.out HX0.out)).mono ?_; rintro e w1 ⟨r, rfl, ⟨hb1, hb2, hb3, bv, bb, hb4, hb5, hb6, hb7, hb8⟩, hoff⟩; rw [List.nil_append] at hb6; have hbb := HF.out bb hb6; subst hbb; obtain ⟨bo, bc, rfl, _⟩ := own_shape hb7; have HB7 := Lib.hid hb7; have HXC := Lib.hid (Off.ext ((by (repeat' (first | (with_reducible exact Ext.refl _) | (with_reducible assumption) | (with_reducible refine Ext.alloc ?_ _) | (with_reducible refine Ext.drew ?_) | (with_reducible refine Ext.drewN ?_ _) | (with_reducible refine Ext.setCell ?_ ?_ _) | (with_reducible refine Ext.trans ?_ (by assumption)))) <;> (first | (with_reducible assumption) | omega | (simp; done) | (simp; omega))) : Ext w wb) hoff (fun k hk => by have := hxa.size; omega)); clear hb6 hb7 hoff; obtain ⟨wc, rfl⟩ : ∃ x, x = w1 := ⟨_, rfl⟩; cases bb) | (go_at_call 129; refine (HCO.out _ (HY.out _ rfl) _ _ _ HB7.out).mono ?_; rintro e w1 ⟨v2, rfl, hE2, ho2⟩; have HO2 := Lib.hid ho2; have HE2 := Lib.hid hE2; clear ho2 hE2))
  · go_returns
    exact ⟨_, rfl, HXC.out, World.ownsRow_nil _ _ _ _⟩
  · go_returns
    exact ⟨_, rfl, HXC.out.trans HE2.out, own_mono HO2.out HXC.out.size⟩
end Go.Proofs.Ytlifhoajamnehaa
set_option linter.unusedVariables false
set_option linter.unusedSimpArgs false
set_option maxRecDepth 100000
set_option maxHeartbeats 4000000
namespace Go.Proofs.Ytlifhoajamnehaa
open Go Go.RowKit Instr
theorem sFirstTiling_bad (r s : Nat → Int) (h : tiB r s = false) (w : World) : Calls Try.prog 60 #[(.agg #[.int .i64 (r 0), .int .i64 (r 1), .int .i64 (r 2), .int .i64 (r 3), .int .i64 (r 4), .int .i64 (r 5)]), (.agg #[.int .i64 (s 0), .int .i64 (s 1), .int .i64 (s 2), .int .i64 (s 3), .int .i64 (s 4), .int .i64 (s 5)])] w fun e w' => ∃ v, e = .returned (.tuple #[v, .bool false]) ∧ Ext w w' ∧ w'.ownsRow w.heap.size 33 2 v 0 [] := by
  have H := Lib.hid (fun w => l6Small_bad r s h w)
  clear h
  skip
  go_enter Try.func60, Try.ntmps60
  go_wp2_with ((go_at_call 119; refine (H.out _).mono ?_; rintro e w1 ⟨rfl, hE⟩; replace k0_0 : w1.cell? ⟨w.heap.size, 0, none⟩ = some (.int .i64 (r 0)) := (hE.cells _ _ (by first | exact l0 | (simp; done) | (simp; omega))).trans (by first | exact k0_0 | (go_simp; done)); replace k0_1 : w1.cell? ⟨w.heap.size, 1, none⟩ = some (.int .i64 (r 1)) := (hE.cells _ _ (by first | exact l0 | (simp; done) | (simp; omega))).trans (by first | exact k0_1 | (go_simp; done)); replace k0_2 : w1.cell? ⟨w.heap.size, 2, none⟩ = some (.int .i64 (r 2)) := (hE.cells _ _ (by first | exact l0 | (simp; done) | (simp; omega))).trans (by first | exact k0_2 | (go_simp; done)); replace k0_3 : w1.cell? ⟨w.heap.size, 3, none⟩ = some (.int .i64 (r 3)) := (hE.cells _ _ (by first | exact l0 | (simp; done) | (simp; omega))).trans (by first | exact k0_3 | (go_simp; done)); replace k0_4 : w1.cell? ⟨w.heap.size, 4, none⟩ = some (.int .i64 (r 4)) := (hE.cells _ _ (by first | exact l0 | (simp; done) | (simp; omega))).trans (by first | exact k0_4 | (go_simp; done)); replace k0_5 : w1.cell? ⟨w.heap.size, 5, none⟩ = some (.int .i64 (r 5)) := (hE.cells _ _ (by first | exact l0 | (simp; done) | (simp; omega))).trans (by first | exact k0_5 | (go_simp; done)); replace k1_0 : w1.cell? ⟨w.heap.size + 1, 0, none⟩ = some (.int .i64 (s 0)) := (hE.cells _ _ (by first | exact l1 | (simp; done) | (simp; omega))).trans (by first | exact k1_0 | (go_simp; done)); replace k1_1 : w1.cell? ⟨w.heap.size + 1, 1, none⟩ = some (.int .i64 (s 1)) := (hE.cells _ _ (by first | exact l1 | (simp; done) | (simp; omega))).trans (by first | exact k1_1 | (go_simp; done)); replace k1_2 : w1.cell? ⟨w.heap.size + 1, 2, none⟩ = some (.int .i64 (s 2)) := (hE.cells _ _ (by first | exact l1 | (simp; done) | (simp; omega))).trans (by first | exact k1_2 | (go_simp; done)); replace k1_3 : w1.cell? ⟨w.heap.size + 1, 3, none⟩ = some (.int .i64 (s 3)) := (hE.cells _ _ (by first | exact l1 | (simp; done) | (simp; omega))).trans (by first | exact k1_3 | (go_simp; done)); replace k1_4 : w1.cell? ⟨w.heap.size + 1, 4, none⟩ = some (.int .i64 (s 4)) := (hE.cells _ _ (by first | exact l1 | (simp; done) | (simp; omega))).trans (by first | exact k1_4 | (go_simp; done)); replace k1_5 : w1.cell? ⟨w.heap.size + 1, 5, none⟩ = some (.int .i64 (s 5)) := (hE.cells _ _ (by first | exact l1 | (simp; done) | (simp; omega))).trans (by first | exact k1_5 | (go_simp; done)); replace l0 : w.heap.size < w1.heap.size := Nat.lt_of_lt_of_le (by first | exact l0 | (simp; done) | (simp; omega)) hE.size; replace l1 : w.heap.size + 1 < w1.heap.size := Nat.lt_of_lt_of_le (by first | exact l1 | (simp; done) | (simp; omega)) hE.size); have hx1 : Ext w w1 := (by (repeat' (first | (with_reducible exact Ext.refl _) | (with_reducible assumption) | (with_reducible refine Ext.alloc ?_ _) | (with_reducible refine Ext.drew ?_) | (with_reducible refine Ext.drewN ?_ _) | (with_reducible refine Ext.setCell ?_ ?_ _) | (with_reducible refine Ext.trans ?_ (by assumption)))) <;> (first | (with_reducible assumption) | omega | (simp; done) | (simp; omega))))
  go_returns
  exact ⟨_, rfl, hx1.alloc _, own_empty _ 33 2 _ hx1.size rfl⟩
theorem sFirstTiling_ok (n m : Nat) (hn : n < 68719476736) (hm : m < 68719476736) (h : (decide (n ≠ 0) && decide (cnt m ≤ 12)) = true) (TL : Option (List Nat)) (hTL : TL = (tl (pr6 n) (fl (opP n m) 36) m []).head?) (w : World) : Calls Try.prog 60 #[(.agg #[.int .i64 (rw n 0), .int .i64 (rw n 1), .int .i64 (rw n 2), .int .i64 (rw n 3), .int .i64 (rw n 4), .int .i64 (rw n 5)]), (.agg #[.int .i64 (rw m 0), .int .i64 (rw m 1), .int .i64 (rw m 2), .int .i64 (rw m 3), .int .i64 (rw m 4), .int .i64 (rw m 5)])] w fun e w' => ∃ v, e = .returned (.tuple #[v, .bool TL.isSome]) ∧ Ext w w' ∧ w'.ownsRow w.heap.size 33 2 v (TL.getD []).length (pxy (TL.getD [])) := by
  have H := Lib.hid (fun w => l6Small_n n m hn true h w)
  have h0 : n ≠ 0 := of_decide_eq_true (Bool.and_eq_true_iff.1 h).1
  have HO := Lib.hid (fun w => l6Open_n n m w)
  have HA := Lib.hid (fun v u w hr hu => l6Tilings_n n hn h0 37 (fl (opP n m) 36) (by have := fl_le (opP n m) 36; omega) (fun i k h => fl_lt h) (fl_le _ _) m hm [] (by have := cnt_le m; simp; omega) v u w hr hu)
  clear h h0
  generalize fl (opP n m) 36 = L at *
  generalize tl (pr6 n) L m [] = TT at *
  subst hTL
  skip
  go_enter Try.func60, Try.ntmps60
  go_wp2_with ((go_at_call 119; refine (H.out _).mono ?_; rintro e w1 ⟨rfl, hE⟩; replace k0_0 : w1.cell? ⟨w.heap.size, 0, none⟩ = some (.int .i64 (rw n 0)) := (hE.cells _ _ (by first | exact l0 | (simp; done) | (simp; omega))).trans (by first | exact k0_0 | (go_simp; done)); replace k0_1 : w1.cell? ⟨w.heap.size, 1, none⟩ = some (.int .i64 (rw n 1)) := (hE.cells _ _ (by first | exact l0 | (simp; done) | (simp; omega))).trans (by first | exact k0_1 | (go_simp; done)); replace k0_2 : w1.cell? ⟨w.heap.size, 2, none⟩ = some (.int .i64 (rw n 2)) := (hE.cells _ _ (by first | exact l0 | (simp; done) | (simp; omega))).trans (by first | exact k0_2 | (go_simp; done)); replace k0_3 : w1.cell? ⟨w.heap.size, 3, none⟩ = some (.int .i64 (rw n 3)) := (hE.cells _ _ (by first | exact l0 | (simp; done) | (simp; omega))).trans (by first | exact k0_3 | (go_simp; done)); replace k0_4 : w1.cell? ⟨w.heap.size, 4, none⟩ = some (.int .i64 (rw n 4)) := (hE.cells _ _ (by first | exact l0 | (simp; done) | (simp; omega))).trans (by first | exact k0_4 | (go_simp; done)); replace k0_5 : w1.cell? ⟨w.heap.size, 5, none⟩ = some (.int .i64 (rw n 5)) := (hE.cells _ _ (by first | exact l0 | (simp; done) | (simp; omega))).trans (by first | exact k0_5 | (go_simp; done)); replace k1_0 : w1.cell? ⟨w.heap.size + 1, 0, none⟩ = some (.int .i64 (rw m 0)) := (hE.cells _ _ (by first | exact l1 | (simp; done) | (simp; omega))).trans (by first | exact k1_0 | (go_simp; done)); replace k1_1 : w1.cell? ⟨w.heap.size + 1, 1, none⟩ = some (.int .i64 (rw m 1)) := (hE.cells _ _ (by first | exact l1 | (simp; done) | (simp; omega))).trans (by first | exact k1_1 | (go_simp; done)); replace k1_2 : w1.cell? ⟨w.heap.size + 1, 2, none⟩ = some (.int .i64 (rw m 2)) := (hE.cells _ _ (by first | exact l1 | (simp; done) | (simp; omega))).trans (by first | exact k1_2 | (go_simp; done)); replace k1_3 : w1.cell? ⟨w.heap.size + 1, 3, none⟩ = some (.int .i64 (rw m 3)) := (hE.cells _ _ (by first | exact l1 | (simp; done) | (simp; omega))).trans (by first | exact k1_3 | (go_simp; done)); replace k1_4 : w1.cell? ⟨w.heap.size + 1, 4, none⟩ = some (.int .i64 (rw m 4)) := (hE.cells _ _ (by first | exact l1 | (simp; done) | (simp; omega))).trans (by first | exact k1_4 | (go_simp; done)); replace k1_5 : w1.cell? ⟨w.heap.size + 1, 5, none⟩ = some (.int .i64 (rw m 5)) := (hE.cells _ _ (by first | exact l1 | (simp; done) | (simp; omega))).trans (by first | exact k1_5 | (go_simp; done)); replace l0 : w.heap.size < w1.heap.size := Nat.lt_of_lt_of_le (by first | exact l0 | (simp; done) | (simp; omega)) hE.size; replace l1 : w.heap.size + 1 < w1.heap.size := Nat.lt_of_lt_of_le (by first | exact l1 | (simp; done) | (simp; omega)) hE.size); obtain ⟨wa, rfl⟩ : ∃ x, x = w1 := ⟨_, rfl⟩)
  have hsz := l0
  have hxa : Ext w wa := (by (repeat' (first | (with_reducible exact Ext.refl _) | (with_reducible assumption) | (with_reducible refine Ext.alloc ?_ _) | (with_reducible refine Ext.drew ?_) | (with_reducible refine Ext.drewN ?_ _) | (with_reducible refine Ext.setCell ?_ ?_ _) | (with_reducible refine Ext.trans ?_ (by assumption)))) <;> (first | (with_reducible assumption) | omega | (simp; done) | (simp; omega)))
  refine wp_made [(0, true), (1, true), (2, true), (3, true)] [(4, []), (5, [])] [(6, false)] [7] (fun i => if i = 4 then fun v x => x.ownsRow wa.heap.size 33 2 v L.length (pxy L) else Emp wa.heap.size 33 2) (by kernel_rfl) (by kernel_rfl) ?_ ?_
  · intro i x
    split
    · exact fun _ _ hx h => own_ext h hx
    · exact emp_stable _ _ _ _
  simp only [pickO, pickT, List.getElem?_cons_succ, List.getElem?_cons_zero]
  intro hgr
  (refine walkP_step (fun K hK => ?_); go_simp; (try (go_ints; try go_simp)); first | (refine hK _ ?_; clear hK K) | (apply Exists.intro; refine ⟨fun _ => ?_, hK _ ?_⟩; (fail); clear hK K) | (simp only [↓IntWalk.iteOmega]; (try go_simp); (try (go_ints; try go_simp)); first | (refine hK _ ?_; clear hK K) | (apply Exists.intro; refine ⟨fun _ => ?_, hK _ ?_⟩; (fail); clear hK K))); (refine walkP_step (fun K hK => ?_); go_simp; (try (go_ints; try go_simp)); first | (refine hK _ ?_; clear hK K) | (apply Exists.intro; refine ⟨fun _ => ?_, hK _ ?_⟩; (fail); clear hK K) | (simp only [↓IntWalk.iteOmega]; (try go_simp); (try (go_ints; try go_simp)); first | (refine hK _ ?_; clear hK K) | (apply Exists.intro; refine ⟨fun _ => ?_, hK _ ?_⟩; (fail); clear hK K))); (refine walkP_step (fun K hK => ?_); go_simp; (try (go_ints; try go_simp)); first | (refine hK _ ?_; clear hK K) | (apply Exists.intro; refine ⟨fun _ => ?_, hK _ ?_⟩; (fail); clear hK K) | (simp only [↓IntWalk.iteOmega]; (try go_simp); (try (go_ints; try go_simp)); first | (refine hK _ ?_; clear hK K) | (apply Exists.intro; refine ⟨fun _ => ?_, hK _ ?_⟩; (fail); clear hK K))); (refine walkP_step (fun K hK => ?_); go_simp; (try (go_ints; try go_simp)); first | (refine hK _ ?_; clear hK K) | (apply Exists.intro; refine ⟨fun _ => ?_, hK _ ?_⟩; (fail); clear hK K) | (simp only [↓IntWalk.iteOmega]; (try go_simp); (try (go_ints; try go_simp)); first | (refine hK _ ?_; clear hK K) | (apply Exists.intro; refine ⟨fun _ => ?_, hK _ ?_⟩; (fail); clear hK K)))
  refine walkP_nil ⟨?_, List.forall_mem_cons.2 ⟨?_, List.forall_mem_cons.2 ⟨?_, fun _ h => nomatch h⟩⟩, fun xs F hF => ?_⟩
  · simp [dstO]
  · intro ow how xs wc hxc hF hd R hR
    simp only [List.getElem?_cons_succ, List.getElem?_cons_zero, Option.some.injEq] at how
    subst how
    simp only [puts, List.map_nil]
    go_simp
    simp only [anyUpon]
    go_at_call 121
    refine (HO.out _).mono ?_
    rintro e w1 ⟨v, rfl, hE, ho⟩
    exact ⟨_, rfl, hR _ _ hE (own_mono ho (by have := hxc.size; simp at this; omega))⟩
  · intro ow how xs wc hxc hF hd R hR
    simp only [List.getElem?_cons_succ, List.getElem?_cons_zero, Option.some.injEq] at how
    subst how
    simp only [puts, List.map_nil]
    have hs := hxc.size
    simp at hs
    go_simp
    simp only [anyUpon]
    exact hR _ _ ((Ext.refl _).alloc _) (emp_new 33 2 hs)
  simp only [dstO, puts, List.map_cons, List.map_nil, List.getElem?_cons_succ, List.getElem?_cons_zero, Option.bind_some, Option.getD_some] at hF ⊢
  have hF4 : ∀ w', F w' → w'.ownsRow wa.heap.size 33 2 (xs 16) L.length (pxy L) := fun w' h => (hF w' h).2 (4, []) (by simp)
  have hF5 : ∀ w', F w' → Emp wa.heap.size 33 2 (xs 17) w' := fun w' h => (hF w' h).2 (5, []) (by simp)
  clear hF
  refine walkP_callR (fun v => v) (fun v w' => LLs w' wa.heap.size v TT) (fun _ _ _ hx h => lls_ext h hx) rfl (fun wc hxc hFw R hR => ?_) (fun v3 => ?_)
  · have g1 := hF4 wc hFw
    obtain ⟨eb, f1, f2, f3, f4⟩ := hF5 wc hFw
    have hIn := inn_nil f4
    have hs := hxc.size
    simp at hs
    go_simp
    simp only [anyUpon]
    go_at_call 120
    refine (HA.out _ _ _ (rawl_own g1) hIn).mono ?_
    rintro e w1 ⟨r, rfl, hE, hll⟩
    exact ⟨_, rfl, hR _ _ hE (lls_mono hll hs)⟩
  refine walkP_nil ?_
  clear hgr
  intro w1 hE hFw
  obtain ⟨_, us, ho3, hl3⟩ := hFw
  have hx1 : Ext w w1 := hxa.trans (((Ext.refl wa).drew).trans hE)
  have hz0 := hxa.size
  clear hF4 hF5 HA HO H hE
  cases TT with
  | nil =>
    obtain ⟨v3o, v3c, rfl, _⟩ := own_shape ho3
    clear ho3 hl3
    skip
    go_wp2
    go_returns
    exact ⟨_, rfl, hx1.alloc _, own_empty _ 33 2 _ hx1.size rfl⟩
  | cons T r =>
    obtain ⟨v3o, v3c, rfl, hsh⟩ := own_shape ho3
    obtain ⟨ub, rfl, _, hub⟩ := hsh (by simp)
    have hl0 : 0 < us.length := by rw [hl3.1]; simp
    have hu0 : us[0]? = some us[0] := List.getElem?_eq_getElem hl0
    have hc0 := (ho3.cellAt 0 (by simp)).trans hu0
    obtain ⟨⟨qb, qc, hq⟩, hown⟩ := hl3.2.2 0 _ T hu0 rfl
    rw [hq] at hc0 hown
    have HOW := Lib.hid hown
    clear ho3 hl3 hu0 hq hown
    skip
    go_wp2
    go_returns
    exact ⟨_, rfl, hx1, own_mono HOW.out hz0⟩
end Go.Proofs.Ytlifhoajamnehaa
