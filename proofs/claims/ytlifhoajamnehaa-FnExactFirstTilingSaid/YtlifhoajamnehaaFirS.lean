/- FirS: contracts of functions, and lemmas, for this seat. Conditions: as each states. -/
import Derived.Test.YtlifhoajamnehaaTilS
import Derived.Test.YtlifhoajamnehaaTilC
import Derived.Test.YtlifhoajamnehaaTilF
import Derived.Test.YtlifhoajamnehaaInk
import Derived.Test.YtlifhoajamnehaaCovL
import Derived.Test.YtlifhoajamnehaaLLs
import Derived.Test.YtlifhoajamnehaaOpens
import Derived.Test.YtlifhoajamnehaaSmall
import Derived.Laws.AppendOwnNone
import Derived.Test.YtlifhoajamnehaaAppB
import Derived.Test.YtlifhoajamnehaaOff
import Derived.Test.YtlifhoajamnehaaMade
import Derived.Laws.EntriesVeiled
import Derived.Test.YtlifhoajamnehaaNeedM
import Derived.Test.YtlifhoajamnehaaLists
import Derived.Shelf.Spec.SlicesGrow
import Derived.Test.YtlifhoajamnehaaCovM
import Derived.Test.YtlifhoajamnehaaBig
import Derived.Test.YtlifhoajamnehaaFrac
set_option linter.unusedVariables false
set_option maxRecDepth 100000
set_option maxHeartbeats 4000000
namespace Go.Proofs.Ytlifhoajamnehaa
open Go Go.RowKit Instr
theorem sFirstTiling_bad (r s : Nat → Int) (h : tiB r s = false) (w : World) : Calls Try.prog 60 #[(.agg #[.int .i64 (r 0), .int .i64 (r 1), .int .i64 (r 2), .int .i64 (r 3), .int .i64 (r 4), .int .i64 (r 5)]), (.agg #[.int .i64 (s 0), .int .i64 (s 1), .int .i64 (s 2), .int .i64 (s 3), .int .i64 (s 4), .int .i64 (s 5)])] w fun e w' => ∃ v, e = .returned (.tuple #[v, .bool false]) ∧ Ext w w' ∧ w'.ownsRow w.heap.size 33 2 v 0 [] := by
  have H := Lib.hid (fun w => l6Small_bad r s h w)
  clear h
  skip
  go_enter Try.func60, Try.ntmps60
  go_wp2_with ((go_at_call 119; refine (H.out _).mono ?_; rintro e w1 ⟨rfl, hE⟩; replace k0_0 : w1.cell? ⟨w.heap.size, 0, none⟩ = some (.int .i64 (r 0)) := (hE.cells _ _ (by first | exact l0 | (simp; done) | (simp; omega))).trans (by first | exact k0_0 | (go_simp; done)); replace k0_1 : w1.cell? ⟨w.heap.size, 1, none⟩ = some (.int .i64 (r 1)) := (hE.cells _ _ (by first | exact l0 | (simp; done) | (simp; omega))).trans (by first | exact k0_1 | (go_simp; done)); replace k0_2 : w1.cell? ⟨w.heap.size, 2, none⟩ = some (.int .i64 (r 2)) := (hE.cells _ _ (by first | exact l0 | (simp; done) | (simp; omega))).trans (by first | exact k0_2 | (go_simp; done)); replace k0_3 : w1.cell? ⟨w.heap.size, 3, none⟩ = some (.int .i64 (r 3)) := (hE.cells _ _ (by first | exact l0 | (simp; done) | (simp; omega))).trans (by first | exact k0_3 | (go_simp; done)); replace k0_4 : w1.cell? ⟨w.heap.size, 4, none⟩ = some (.int .i64 (r 4)) := (hE.cells _ _ (by first | exact l0 | (simp; done) | (simp; omega))).trans (by first | exact k0_4 | (go_simp; done)); replace k0_5 : w1.cell? ⟨w.heap.size, 5, none⟩ = some (.int .i64 (r 5)) := (hE.cells _ _ (by first | exact l0 | (simp; done) | (simp; omega))).trans (by first | exact k0_5 | (go_simp; done)); replace k1_0 : w1.cell? ⟨w.heap.size + 1, 0, none⟩ = some (.int .i64 (s 0)) := (hE.cells _ _ (by first | exact l1 | (simp; done) | (simp; omega))).trans (by first | exact k1_0 | (go_simp; done)); replace k1_1 : w1.cell? ⟨w.heap.size + 1, 1, none⟩ = some (.int .i64 (s 1)) := (hE.cells _ _ (by first | exact l1 | (simp; done) | (simp; omega))).trans (by first | exact k1_1 | (go_simp; done)); replace k1_2 : w1.cell? ⟨w.heap.size + 1, 2, none⟩ = some (.int .i64 (s 2)) := (hE.cells _ _ (by first | exact l1 | (simp; done) | (simp; omega))).trans (by first | exact k1_2 | (go_simp; done)); replace k1_3 : w1.cell? ⟨w.heap.size + 1, 3, none⟩ = some (.int .i64 (s 3)) := (hE.cells _ _ (by first | exact l1 | (simp; done) | (simp; omega))).trans (by first | exact k1_3 | (go_simp; done)); replace k1_4 : w1.cell? ⟨w.heap.size + 1, 4, none⟩ = some (.int .i64 (s 4)) := (hE.cells _ _ (by first | exact l1 | (simp; done) | (simp; omega))).trans (by first | exact k1_4 | (go_simp; done)); replace k1_5 : w1.cell? ⟨w.heap.size + 1, 5, none⟩ = some (.int .i64 (s 5)) := (hE.cells _ _ (by first | exact l1 | (simp; done) | (simp; omega))).trans (by first | exact k1_5 | (go_simp; done)); replace l0 : w.heap.size < w1.heap.size := Nat.lt_of_lt_of_le (by first | exact l0 | (simp; done) | (simp; omega)) hE.size; replace l1 : w.heap.size + 1 < w1.heap.size := Nat.lt_of_lt_of_le (by first | exact l1 | (simp; done) | (simp; omega)) hE.size); have hx1 : Ext w w1 := (by (repeat' (first | (with_reducible exact Ext.refl _) | (with_reducible assumption) | (with_reducible refine Ext.alloc ?_ _) | (with_reducible refine Ext.drew ?_) | (with_reducible refine Ext.drewN ?_ _) | (with_reducible refine Ext.setCell ?_ ?_ _) | (with_reducible refine Ext.trans ?_ (by assumption)))) <;> (first | (with_reducible assumption) | omega | (simp; done) | (simp; omega))))
  go_returns
  exact ⟨_, rfl, hx1.alloc _, own_empty _ 33 2 _ hx1.size rfl⟩
theorem sFirstTiling_ok (n m : Nat) (hn : n < 68719476736) (hm : m < 68719476736) (h : (decide (n ≠ 0) && decide (cnt m ≤ 12)) = true) (TL : Option (List Nat)) (hTL : TL = (tl (pr6 n) (fl (opP n m) 36) m []).head?) (w : World) : Calls Try.prog 60 #[(.agg #[.int .i64 (rw n 0), .int .i64 (rw n 1), .int .i64 (rw n 2), .int .i64 (rw n 3), .int .i64 (rw n 4), .int .i64 (rw n 5)]), (.agg #[.int .i64 (rw m 0), .int .i64 (rw m 1), .int .i64 (rw m 2), .int .i64 (rw m 3), .int .i64 (rw m 4), .int .i64 (rw m 5)])] w fun e w' => ∃ v, e = .returned (.tuple #[v, .bool TL.isSome]) ∧ Ext w w' ∧ w'.ownsRow w.heap.size 33 2 v (TL.getD []).length (pxy (TL.getD [])) := by
  have H := Lib.hid (fun w => l6Small_n n m hn true h w)
  have h0 : n ≠ 0 := of_decide_eq_true (Bool.and_eq_true_iff.1 h).1
  have HO := Lib.hid (fun w => l6Open_n n m w)
  have HA := Lib.hid (fun v u w hr hu => l6Tilings_n n hn h0 37 (fl (opP n m) 36) (by have := fl_le (opP n m) 36; omega) (fun i k h => fl_lt h) (fl_le _ _) m hm [] (by have := cnt_le m; simp; omega) v u w hr hu)
  clear h h0
  generalize fl (opP n m) 36 = L at *
  generalize tl (pr6 n) L m [] = TT at *
  subst hTL
  skip
  go_enter Try.func60, Try.ntmps60
  go_wp2_with ((go_at_call 119; refine (H.out _).mono ?_; rintro e w1 ⟨rfl, hE⟩; replace k0_0 : w1.cell? ⟨w.heap.size, 0, none⟩ = some (.int .i64 (rw n 0)) := (hE.cells _ _ (by first | exact l0 | (simp; done) | (simp; omega))).trans (by first | exact k0_0 | (go_simp; done)); replace k0_1 : w1.cell? ⟨w.heap.size, 1, none⟩ = some (.int .i64 (rw n 1)) := (hE.cells _ _ (by first | exact l0 | (simp; done) | (simp; omega))).trans (by first | exact k0_1 | (go_simp; done)); replace k0_2 : w1.cell? ⟨w.heap.size, 2, none⟩ = some (.int .i64 (rw n 2)) := (hE.cells _ _ (by first | exact l0 | (simp; done) | (simp; omega))).trans (by first | exact k0_2 | (go_simp; done)); replace k0_3 : w1.cell? ⟨w.heap.size, 3, none⟩ = some (.int .i64 (rw n 3)) := (hE.cells _ _ (by first | exact l0 | (simp; done) | (simp; omega))).trans (by first | exact k0_3 | (go_simp; done)); replace k0_4 : w1.cell? ⟨w.heap.size, 4, none⟩ = some (.int .i64 (rw n 4)) := (hE.cells _ _ (by first | exact l0 | (simp; done) | (simp; omega))).trans (by first | exact k0_4 | (go_simp; done)); replace k0_5 : w1.cell? ⟨w.heap.size, 5, none⟩ = some (.int .i64 (rw n 5)) := (hE.cells _ _ (by first | exact l0 | (simp; done) | (simp; omega))).trans (by first | exact k0_5 | (go_simp; done)); replace k1_0 : w1.cell? ⟨w.heap.size + 1, 0, none⟩ = some (.int .i64 (rw m 0)) := (hE.cells _ _ (by first | exact l1 | (simp; done) | (simp; omega))).trans (by first | exact k1_0 | (go_simp; done)); replace k1_1 : w1.cell? ⟨w.heap.size + 1, 1, none⟩ = some (.int .i64 (rw m 1)) := (hE.cells _ _ (by first | exact l1 | (simp; done) | (simp; omega))).trans (by first | exact k1_1 | (go_simp; done)); replace k1_2 : w1.cell? ⟨w.heap.size + 1, 2, none⟩ = some (.int .i64 (rw m 2)) := (hE.cells _ _ (by first | exact l1 | (simp; done) | (simp; omega))).trans (by first | exact k1_2 | (go_simp; done)); replace k1_3 : w1.cell? ⟨w.heap.size + 1, 3, none⟩ = some (.int .i64 (rw m 3)) := (hE.cells _ _ (by first | exact l1 | (simp; done) | (simp; omega))).trans (by first | exact k1_3 | (go_simp; done)); replace k1_4 : w1.cell? ⟨w.heap.size + 1, 4, none⟩ = some (.int .i64 (rw m 4)) := (hE.cells _ _ (by first | exact l1 | (simp; done) | (simp; omega))).trans (by first | exact k1_4 | (go_simp; done)); replace k1_5 : w1.cell? ⟨w.heap.size + 1, 5, none⟩ = some (.int .i64 (rw m 5)) := (hE.cells _ _ (by first | exact l1 | (simp; done) | (simp; omega))).trans (by first | exact k1_5 | (go_simp; done)); replace l0 : w.heap.size < w1.heap.size := Nat.lt_of_lt_of_le (by first | exact l0 | (simp; done) | (simp; omega)) hE.size; replace l1 : w.heap.size + 1 < w1.heap.size := Nat.lt_of_lt_of_le (by first | exact l1 | (simp; done) | (simp; omega)) hE.size); obtain ⟨wa, rfl⟩ : ∃ x, x = w1 := ⟨_, rfl⟩)
  have hsz := l0
  have hxa : Ext w wa := (by (repeat' (first | (with_reducible exact Ext.refl _) | (with_reducible assumption) | (with_reducible refine Ext.alloc ?_ _) | (with_reducible refine Ext.drew ?_) | (with_reducible refine Ext.drewN ?_ _) | (with_reducible refine Ext.setCell ?_ ?_ _) | (with_reducible refine Ext.trans ?_ (by assumption)))) <;> (first | (with_reducible assumption) | omega | (simp; done) | (simp; omega)))
  refine wp_made [(0, true), (1, true), (2, true), (3, true)] [(4, []), (5, [])] [(6, false)] [7] (fun i => if i = 4 then fun v x => x.ownsRow wa.heap.size 33 2 v L.length (pxy L) else Emp wa.heap.size 33 2) (by kernel_rfl) (by kernel_rfl) ?_ ?_
  · intro i x
    split
    · exact fun _ _ hx h => own_ext h hx
    · exact emp_stable _ _ _ _
  simp only [pickO, pickT, List.getElem?_cons_succ, List.getElem?_cons_zero]
  intro hgr
  (refine walkP_step (fun K hK => ?_); go_simp; (try (go_ints; try go_simp)); first | (refine hK _ ?_; clear hK K) | (apply Exists.intro; refine ⟨fun _ => ?_, hK _ ?_⟩; (fail); clear hK K) | (simp only [↓IntWalk.iteOmega]; (try go_simp); (try (go_ints; try go_simp)); first | (refine hK _ ?_; clear hK K) | (apply Exists.intro; refine ⟨fun _ => ?_, hK _ ?_⟩; (fail); clear hK K))); (refine walkP_step (fun K hK => ?_); go_simp; (try (go_ints; try go_simp)); first | (refine hK _ ?_; clear hK K) | (apply Exists.intro; refine ⟨fun _ => ?_, hK _ ?_⟩; (fail); clear hK K) | (simp only [↓IntWalk.iteOmega]; (try go_simp); (try (go_ints; try go_simp)); first | (refine hK _ ?_; clear hK K) | (apply Exists.intro; refine ⟨fun _ => ?_, hK _ ?_⟩; (fail); clear hK K))); (refine walkP_step (fun K hK => ?_); go_simp; (try (go_ints; try go_simp)); first | (refine hK _ ?_; clear hK K) | (apply Exists.intro; refine ⟨fun _ => ?_, hK _ ?_⟩; (fail); clear hK K) | (simp only [↓IntWalk.iteOmega]; (try go_simp); (try (go_ints; try go_simp)); first | (refine hK _ ?_; clear hK K) | (apply Exists.intro; refine ⟨fun _ => ?_, hK _ ?_⟩; (fail); clear hK K))); (refine walkP_step (fun K hK => ?_); go_simp; (try (go_ints; try go_simp)); first | (refine hK _ ?_; clear hK K) | (apply Exists.intro; refine ⟨fun _ => ?_, hK _ ?_⟩; (fail); clear hK K) | (simp only [↓IntWalk.iteOmega]; (try go_simp); (try (go_ints; try go_simp)); first | (refine hK _ ?_; clear hK K) | (apply Exists.intro; refine ⟨fun _ => ?_, hK _ ?_⟩; (fail); clear hK K)))
  refine walkP_nil ⟨?_, List.forall_mem_cons.2 ⟨?_, List.forall_mem_cons.2 ⟨?_, fun _ h => nomatch h⟩⟩, fun xs F hF => ?_⟩
  · simp [dstO]
  · intro ow how xs wc hxc hF hd R hR
    simp only [List.getElem?_cons_succ, List.getElem?_cons_zero, Option.some.injEq] at how
    subst how
    simp only [puts, List.map_nil]
    go_simp
    simp only [anyUpon]
    go_at_call 121
    refine (HO.out _).mono ?_
    rintro e w1 ⟨v, rfl, hE, ho⟩
    exact ⟨_, rfl, hR _ _ hE (own_mono ho (by have := hxc.size; simp at this; omega))⟩
  · intro ow how xs wc hxc hF hd R hR
    simp only [List.getElem?_cons_succ, List.getElem?_cons_zero, Option.some.injEq] at how
    subst how
    simp only [puts, List.map_nil]
    have hs := hxc.size
    simp at hs
    go_simp
    simp only [anyUpon]
    exact hR _ _ ((Ext.refl _).alloc _) (emp_new 33 2 hs)
  simp only [dstO, puts, List.map_cons, List.map_nil, List.getElem?_cons_succ, List.getElem?_cons_zero, Option.bind_some, Option.getD_some] at hF ⊢
  have hF4 : ∀ w', F w' → w'.ownsRow wa.heap.size 33 2 (xs 16) L.length (pxy L) := fun w' h => (hF w' h).2 (4, []) (by simp)
  have hF5 : ∀ w', F w' → Emp wa.heap.size 33 2 (xs 17) w' := fun w' h => (hF w' h).2 (5, []) (by simp)
  clear hF
  refine walkP_callR (fun v => v) (fun v w' => LLs w' wa.heap.size v TT) (fun _ _ _ hx h => lls_ext h hx) rfl (fun wc hxc hFw R hR => ?_) (fun v3 => ?_)
  · have g1 := hF4 wc hFw
    obtain ⟨eb, f1, f2, f3, f4⟩ := hF5 wc hFw
    have hIn := inn_nil f4
    have hs := hxc.size
    simp at hs
    go_simp
    simp only [anyUpon]
    go_at_call 120
    refine (HA.out _ _ _ (rawl_own g1) hIn).mono ?_
    rintro e w1 ⟨r, rfl, hE, hll⟩
    exact ⟨_, rfl, hR _ _ hE (lls_mono hll hs)⟩
  refine walkP_nil ?_
  clear hgr
  intro w1 hE hFw
  obtain ⟨_, us, ho3, hl3⟩ := hFw
  have hx1 : Ext w w1 := hxa.trans (((Ext.refl wa).drew).trans hE)
  have hz0 := hxa.size
  clear hF4 hF5 HA HO H hE
  cases TT with
  | nil =>
    obtain ⟨v3o, v3c, rfl, _⟩ := own_shape ho3
    clear ho3 hl3
    skip
    go_wp2
    go_returns
    exact ⟨_, rfl, hx1.alloc _, own_empty _ 33 2 _ hx1.size rfl⟩
  | cons T r =>
    obtain ⟨v3o, v3c, rfl, hsh⟩ := own_shape ho3
    obtain ⟨ub, rfl, _, hub⟩ := hsh (by simp)
    have hl0 : 0 < us.length := by rw [hl3.1]; simp
    have hu0 : us[0]? = some us[0] := List.getElem?_eq_getElem hl0
    have hc0 := (ho3.cellAt 0 (by simp)).trans hu0
    obtain ⟨⟨qb, qc, hq⟩, hown⟩ := hl3.2.2 0 _ T hu0 rfl
    rw [hq] at hc0 hown
    have HOW := Lib.hid hown
    clear ho3 hl3 hu0 hq hown
    skip
    go_wp2
    go_returns
    exact ⟨_, rfl, hx1, own_mono HOW.out hz0⟩
end Go.Proofs.Ytlifhoajamnehaa
