/- PicC: contracts of functions, and lemmas, for this seat. Conditions: as each states. -/
import Derived.Test.YtadnfocbfabjnaaLayM
import Derived.Test.YtadnfocbfabjnaaPrn
import Derived.Test.YtadnfocbfabjnaaLists
import Derived.Test.YtadnfocbfabjnaaMade
import Derived.Test.YtadnfocbfabjnaaOff0
set_option linter.unusedVariables false
set_option maxRecDepth 100000
set_option maxHeartbeats 4000000
namespace Go.Proofs.Ytadnfocbfabjnaa
open Go Go.RowKit Instr
theorem info_lay : (Try.prog.info? 134).map (fun i => (i.zero, i.size, i.bytes)) = some (some (.agg #[.int .u64 0, .int .i64 0]), 2, 16) := by kernel_rfl
theorem makesIP {o : Oper} {a : Act} (ho : o.op = .alloc 57) : Makes Try.prog o a (av 36 (fun _ => 0), 57) := fun w => by
  rw [← zeros36]
  simp only [execOp, ho]
  go_simp
theorem buildIP {o : Oper} {a : Act} {w : World} (ho : o.op = .build 57 #[]) : (execOp a.eval o).run Try.prog w = .ok (.value (.agg (av 36 (fun _ => 0)))) w := by
  rw [← zeros36]
  simp only [execOp, ho]
  go_simp
/-- a valid print's numbers -/
theorem prB_parts {r : Nat → Int} (h : prB r = true) : vs (fun k => r (k + 1)) = true ∧ ∃ x y : Nat, r 7 = (x : Int) ∧ r 8 = (y : Int) ∧ x < 6 ∧ y < 6 := by
  unfold prB at h
  rw [Bool.and_eq_true, Bool.and_eq_true] at h
  obtain ⟨x, y, h1, h2, h3, h4⟩ := cell_nat h.2.2
  exact ⟨h.2.1, x, y, h1, h2, h3, h4⟩
def rowG (g : Nat → Int) (i k : Nat) : Int := g (i * 9 + k)
theorem layG_is {g r : Nat → Int} {j x y : Nat} (hr : r = rowG g j) (h7 : r 7 = (x : Int)) (h8 : r 8 = (y : Int)) : layG g j = (sh (setN (fun k => r (k + 1))) x y, r 0) := by
  subst hr
  have e7 : g (j * 9 + 7) = x := h7
  have e8 : g (j * 9 + 8) = y := h8
  unfold layG ownG
  rw [e7, e8]
  rfl
theorem own_push0 {w wr w1 : World} {B : Nat} {e : TypeId} {size : Nat} {v : Value} {n : Nat} {xs : List Value} (hx : Ext w wr) (hB : w.heap.size ≤ B) (hown : wr.ownsRow B e size v n xs) (hgrow : wr.grownBy w1 v.ownBlock) : Ext w w1 :=
  .of (hx.below.grown hgrow (by have := hx.size; omega) (fun k hk => by have := (hown.lt k hk).1; omega))
theorem layersOf_n (n : Nat) (g : Nat → Int) (hn : n ≤ 1048576) (hg : ∀ j, j < n → prB (rowG g j) = true) (B : Nat) (v : Value) (w : World) (ho : w.ownsRow B 122 9 v n (Gl (n * 9) g)) :
    Calls Try.prog 133 #[v] w fun e w' => ∃ u, e = .returned (.tuple #[u, .bool (decide ((n : Int) ≤ 6))]) ∧ Ext w w' ∧ w'.ownsRow w.heap.size 134 2 u n (lays (laysG g n)) := by
  obtain ⟨i0, hi, iz0, iz1, iz2⟩ := info_parts info_lay
  obtain ⟨ao, cap, rfl, hsh⟩ := own_shape ho
  have HI := Lib.hid ho
  have HK := Lib.hid hg
  clear ho hg
  go_enter Try.func133, Try.ntmps133
  go_wp2
  go_loopw [4, 12] (fun u i wr => ∃ j : Nat, j ≤ n ∧ i = .int .i64 j ∧ Ext w wr ∧ w.heap.size < wr.heap.size ∧ wr.ownsRow w.heap.size 134 2 u j (lays (laysG g j))) (fun _ i _ => n - (intOf i).toNat)
  case atStart => exact ⟨0, Nat.zero_le _, rfl, (by (repeat' (first | (with_reducible exact Ext.refl _) | (with_reducible assumption) | (with_reducible refine Ext.alloc ?_ _) | (with_reducible refine Ext.drew ?_) | (with_reducible refine Ext.drewN ?_ _) | (with_reducible refine Ext.setCell ?_ ?_ _) | (with_reducible refine Ext.trans ?_ (by assumption)))) <;> (first | (with_reducible assumption) | omega | (simp; done) | (simp; omega))), by simp, own_empty _ 134 2 _ (by simp) (by simp)⟩
  case round =>
    obtain ⟨j, hj, rfl, hx, hz, ho⟩ := hrel
    obtain ⟨wo, rfl⟩ : ∃ wo : World, wo = wr := ⟨_, rfl⟩
    have HO := Lib.hid ho
    clear ho
    by_cases hlt : j < n
    · obtain ⟨b, rfl, _, hb⟩ := hsh (by omega)
      obtain ⟨r, hr⟩ : ∃ r : Nat → Int, r = rowG g j := ⟨_, rfl⟩
      have hok := HK.out j hlt
      rw [← hr] at hok
      obtain ⟨hv, x, y, e7, e8, hx6, hy6⟩ := prB_parts hok
      obtain ⟨q, hq⟩ : ∃ q, q = y * 6 + x := ⟨_, rfl⟩
      have hL := layG_is hr e7 e8
      have HIP := Lib.hid (fun w => IsPrint_any r w)
      rw [hok] at HIP
      have HS := Lib.hid (show ∀ w, Calls Try.prog 108 #[.agg #[.int .i64 (r 1), .int .i64 (r 2), .int .i64 (r 3), .int .i64 (r 4), .int .i64 (r 5), .int .i64 (r 6)]] w fun e w' => e = .returned (.tuple #[.int .u64 (setN (fun k => r (k + 1)) : Int), .bool true]) ∧ Ext w w' from fun w => setOf_is (fun k => r (k + 1)) true hv w)
      have hs36 := setN_lt (fun k => r (k + 1))
      generalize setN (fun k => r (k + 1)) = s at *
      have HN := Lib.hid (fun w => number_any x y hx6 hy6 w)
      rw [← hq, ← e7, ← e8] at HN
      have HP := Lib.hid (fun w => pressed_any s q hs36 (by omega) w)
      rw [show q % 6 = x by omega, show q / 6 = y by omega] at HP
      have HL := Lib.hid (show lays (laysG g (j + 1)) = lays (laysG g j) ++ [.int .u64 (sh s x y : Nat), .int .i64 (r 0)] by rw [laysG_succ, lays_append, hL]; rfl)
      have c0 : wo.cell? ⟨b, j * 9 + 0, none⟩ = some (.int .i64 (r 0)) := by rw [hr]; exact ((own_ext HI.out hx).cellAt (j * 9 + 0) (by omega)).trans (Gl_get (by omega))
      have c1 : wo.cell? ⟨b, j * 9 + 1, none⟩ = some (.int .i64 (r 1)) := by rw [hr]; exact ((own_ext HI.out hx).cellAt (j * 9 + 1) (by omega)).trans (Gl_get (by omega))
      have c2 : wo.cell? ⟨b, j * 9 + 2, none⟩ = some (.int .i64 (r 2)) := by rw [hr]; exact ((own_ext HI.out hx).cellAt (j * 9 + 2) (by omega)).trans (Gl_get (by omega))
      have c3 : wo.cell? ⟨b, j * 9 + 3, none⟩ = some (.int .i64 (r 3)) := by rw [hr]; exact ((own_ext HI.out hx).cellAt (j * 9 + 3) (by omega)).trans (Gl_get (by omega))
      have c4 : wo.cell? ⟨b, j * 9 + 4, none⟩ = some (.int .i64 (r 4)) := by rw [hr]; exact ((own_ext HI.out hx).cellAt (j * 9 + 4) (by omega)).trans (Gl_get (by omega))
      have c5 : wo.cell? ⟨b, j * 9 + 5, none⟩ = some (.int .i64 (r 5)) := by rw [hr]; exact ((own_ext HI.out hx).cellAt (j * 9 + 5) (by omega)).trans (Gl_get (by omega))
      have c6 : wo.cell? ⟨b, j * 9 + 6, none⟩ = some (.int .i64 (r 6)) := by rw [hr]; exact ((own_ext HI.out hx).cellAt (j * 9 + 6) (by omega)).trans (Gl_get (by omega))
      have c7 : wo.cell? ⟨b, j * 9 + 7, none⟩ = some (.int .i64 (r 7)) := by rw [hr]; exact ((own_ext HI.out hx).cellAt (j * 9 + 7) (by omega)).trans (Gl_get (by omega))
      have c8 : wo.cell? ⟨b, j * 9 + 8, none⟩ = some (.int .i64 (r 8)) := by rw [hr]; exact ((own_ext HI.out hx).cellAt (j * 9 + 8) (by omega)).trans (Gl_get (by omega))
      rw [Nat.add_zero] at c0
      clear hok hv e7 e8 hL hr hq
      generalize sh s x y = z at *
      skip
      skip
      have tk0 := Lib.hid True.intro; have tk1 := Lib.hid True.intro
      go_wp2_with (first | (clear tk0; (go_at_call 201; refine (HIP.out _).mono ?_; rintro e w1 ⟨rfl, hE⟩; replace k0_0 : w1.cell? ⟨wo.heap.size, 0, none⟩ = some (.int .i64 (r 0)) := (hE.cells _ _ (by first | exact l0 | (simp; done) | (simp; omega))).trans (by first | exact k0_0 | (go_simp; done)); replace k0_1 : w1.cell? ⟨wo.heap.size, 1, none⟩ = some (.int .i64 (r 1)) := (hE.cells _ _ (by first | exact l0 | (simp; done) | (simp; omega))).trans (by first | exact k0_1 | (go_simp; done)); replace k0_2 : w1.cell? ⟨wo.heap.size, 2, none⟩ = some (.int .i64 (r 2)) := (hE.cells _ _ (by first | exact l0 | (simp; done) | (simp; omega))).trans (by first | exact k0_2 | (go_simp; done)); replace k0_3 : w1.cell? ⟨wo.heap.size, 3, none⟩ = some (.int .i64 (r 3)) := (hE.cells _ _ (by first | exact l0 | (simp; done) | (simp; omega))).trans (by first | exact k0_3 | (go_simp; done)); replace k0_4 : w1.cell? ⟨wo.heap.size, 4, none⟩ = some (.int .i64 (r 4)) := (hE.cells _ _ (by first | exact l0 | (simp; done) | (simp; omega))).trans (by first | exact k0_4 | (go_simp; done)); replace k0_5 : w1.cell? ⟨wo.heap.size, 5, none⟩ = some (.int .i64 (r 5)) := (hE.cells _ _ (by first | exact l0 | (simp; done) | (simp; omega))).trans (by first | exact k0_5 | (go_simp; done)); replace k0_6 : w1.cell? ⟨wo.heap.size, 6, none⟩ = some (.int .i64 (r 6)) := (hE.cells _ _ (by first | exact l0 | (simp; done) | (simp; omega))).trans (by first | exact k0_6 | (go_simp; done)); replace k0_7 : w1.cell? ⟨wo.heap.size, 7, none⟩ = some (.int .i64 (r 7)) := (hE.cells _ _ (by first | exact l0 | (simp; done) | (simp; omega))).trans (by first | exact k0_7 | (go_simp; done)); replace k0_8 : w1.cell? ⟨wo.heap.size, 8, none⟩ = some (.int .i64 (r 8)) := (hE.cells _ _ (by first | exact l0 | (simp; done) | (simp; omega))).trans (by first | exact k0_8 | (go_simp; done)); replace l0 : wo.heap.size < w1.heap.size := Nat.lt_of_lt_of_le (by first | exact l0 | (simp; done) | (simp; omega)) hE.size)) | (clear tk1; ((go_at_call 108; refine (HS.out _).mono ?_; rintro e w1 ⟨rfl, hE⟩; replace k0_0 : w1.cell? ⟨wo.heap.size, 0, none⟩ = some (.int .i64 (r 0)) := (hE.cells _ _ (by first | exact l0 | (simp; done) | (simp; omega))).trans (by first | exact k0_0 | (go_simp; done)); replace k0_1 : w1.cell? ⟨wo.heap.size, 1, none⟩ = some (.int .i64 (r 1)) := (hE.cells _ _ (by first | exact l0 | (simp; done) | (simp; omega))).trans (by first | exact k0_1 | (go_simp; done)); replace k0_2 : w1.cell? ⟨wo.heap.size, 2, none⟩ = some (.int .i64 (r 2)) := (hE.cells _ _ (by first | exact l0 | (simp; done) | (simp; omega))).trans (by first | exact k0_2 | (go_simp; done)); replace k0_3 : w1.cell? ⟨wo.heap.size, 3, none⟩ = some (.int .i64 (r 3)) := (hE.cells _ _ (by first | exact l0 | (simp; done) | (simp; omega))).trans (by first | exact k0_3 | (go_simp; done)); replace k0_4 : w1.cell? ⟨wo.heap.size, 4, none⟩ = some (.int .i64 (r 4)) := (hE.cells _ _ (by first | exact l0 | (simp; done) | (simp; omega))).trans (by first | exact k0_4 | (go_simp; done)); replace k0_5 : w1.cell? ⟨wo.heap.size, 5, none⟩ = some (.int .i64 (r 5)) := (hE.cells _ _ (by first | exact l0 | (simp; done) | (simp; omega))).trans (by first | exact k0_5 | (go_simp; done)); replace k0_6 : w1.cell? ⟨wo.heap.size, 6, none⟩ = some (.int .i64 (r 6)) := (hE.cells _ _ (by first | exact l0 | (simp; done) | (simp; omega))).trans (by first | exact k0_6 | (go_simp; done)); replace k0_7 : w1.cell? ⟨wo.heap.size, 7, none⟩ = some (.int .i64 (r 7)) := (hE.cells _ _ (by first | exact l0 | (simp; done) | (simp; omega))).trans (by first | exact k0_7 | (go_simp; done)); replace k0_8 : w1.cell? ⟨wo.heap.size, 8, none⟩ = some (.int .i64 (r 8)) := (hE.cells _ _ (by first | exact l0 | (simp; done) | (simp; omega))).trans (by first | exact k0_8 | (go_simp; done)); replace l0 : wo.heap.size < w1.heap.size := Nat.lt_of_lt_of_le (by first | exact l0 | (simp; done) | (simp; omega)) hE.size); obtain ⟨wp, rfl⟩ : ∃ x, x = w1 := ⟨_, rfl⟩)))
      have hwp : wo.heap.size < wp.heap.size := l0
      refine wp_made [(0, true), (1, true), (2, true), (3, true), (4, true), (5, true), (6, true), (7, true), (8, true)] [(9, [])] [] [10, 11] (fun _ => Cel [.int .u64 (z : Int), .int .i64 (r 0)]) (by kernel_rfl) (by kernel_rfl) ?_ ?_
      · exact fun i x => cel_stable _ _
      simp only [pickO, pickT, List.getElem?_cons_succ, List.getElem?_cons_zero]
      intro hgr
      (refine walkP_step (fun K hK => ?_); go_simp; (try (go_ints; try go_simp)); first | (refine hK _ ?_; clear hK K) | (apply Exists.intro; refine ⟨fun _ => ?_, hK _ ?_⟩; (first | (go_at_call 202; exact (HN.out _)) | (go_at_call 128; exact (HP.out _))); clear hK K) | (simp only [↓IntWalk.iteOmega]; (try go_simp); (try (go_ints; try go_simp)); first | (refine hK _ ?_; clear hK K) | (apply Exists.intro; refine ⟨fun _ => ?_, hK _ ?_⟩; (first | (go_at_call 202; exact (HN.out _)) | (go_at_call 128; exact (HP.out _))); clear hK K))); (refine walkP_step (fun K hK => ?_); go_simp; (try (go_ints; try go_simp)); first | (refine hK _ ?_; clear hK K) | (apply Exists.intro; refine ⟨fun _ => ?_, hK _ ?_⟩; (first | (go_at_call 202; exact (HN.out _)) | (go_at_call 128; exact (HP.out _))); clear hK K) | (simp only [↓IntWalk.iteOmega]; (try go_simp); (try (go_ints; try go_simp)); first | (refine hK _ ?_; clear hK K) | (apply Exists.intro; refine ⟨fun _ => ?_, hK _ ?_⟩; (first | (go_at_call 202; exact (HN.out _)) | (go_at_call 128; exact (HP.out _))); clear hK K))); (refine walkP_step (fun K hK => ?_); go_simp; (try (go_ints; try go_simp)); first | (refine hK _ ?_; clear hK K) | (apply Exists.intro; refine ⟨fun _ => ?_, hK _ ?_⟩; (first | (go_at_call 202; exact (HN.out _)) | (go_at_call 128; exact (HP.out _))); clear hK K) | (simp only [↓IntWalk.iteOmega]; (try go_simp); (try (go_ints; try go_simp)); first | (refine hK _ ?_; clear hK K) | (apply Exists.intro; refine ⟨fun _ => ?_, hK _ ?_⟩; (first | (go_at_call 202; exact (HN.out _)) | (go_at_call 128; exact (HP.out _))); clear hK K))); (refine walkP_step (fun K hK => ?_); go_simp; (try (go_ints; try go_simp)); first | (refine hK _ ?_; clear hK K) | (apply Exists.intro; refine ⟨fun _ => ?_, hK _ ?_⟩; (first | (go_at_call 202; exact (HN.out _)) | (go_at_call 128; exact (HP.out _))); clear hK K) | (simp only [↓IntWalk.iteOmega]; (try go_simp); (try (go_ints; try go_simp)); first | (refine hK _ ?_; clear hK K) | (apply Exists.intro; refine ⟨fun _ => ?_, hK _ ?_⟩; (first | (go_at_call 202; exact (HN.out _)) | (go_at_call 128; exact (HP.out _))); clear hK K))); (refine walkP_step (fun K hK => ?_); go_simp; (try (go_ints; try go_simp)); first | (refine hK _ ?_; clear hK K) | (apply Exists.intro; refine ⟨fun _ => ?_, hK _ ?_⟩; (first | (go_at_call 202; exact (HN.out _)) | (go_at_call 128; exact (HP.out _))); clear hK K) | (simp only [↓IntWalk.iteOmega]; (try go_simp); (try (go_ints; try go_simp)); first | (refine hK _ ?_; clear hK K) | (apply Exists.intro; refine ⟨fun _ => ?_, hK _ ?_⟩; (first | (go_at_call 202; exact (HN.out _)) | (go_at_call 128; exact (HP.out _))); clear hK K))); (refine walkP_step (fun K hK => ?_); go_simp; (try (go_ints; try go_simp)); first | (refine hK _ ?_; clear hK K) | (apply Exists.intro; refine ⟨fun _ => ?_, hK _ ?_⟩; (first | (go_at_call 202; exact (HN.out _)) | (go_at_call 128; exact (HP.out _))); clear hK K) | (simp only [↓IntWalk.iteOmega]; (try go_simp); (try (go_ints; try go_simp)); first | (refine hK _ ?_; clear hK K) | (apply Exists.intro; refine ⟨fun _ => ?_, hK _ ?_⟩; (first | (go_at_call 202; exact (HN.out _)) | (go_at_call 128; exact (HP.out _))); clear hK K))); (refine walkP_step (fun K hK => ?_); go_simp; (try (go_ints; try go_simp)); first | (refine hK _ ?_; clear hK K) | (apply Exists.intro; refine ⟨fun _ => ?_, hK _ ?_⟩; (first | (go_at_call 202; exact (HN.out _)) | (go_at_call 128; exact (HP.out _))); clear hK K) | (simp only [↓IntWalk.iteOmega]; (try go_simp); (try (go_ints; try go_simp)); first | (refine hK _ ?_; clear hK K) | (apply Exists.intro; refine ⟨fun _ => ?_, hK _ ?_⟩; (first | (go_at_call 202; exact (HN.out _)) | (go_at_call 128; exact (HP.out _))); clear hK K))); (refine walkP_step (fun K hK => ?_); go_simp; (try (go_ints; try go_simp)); first | (refine hK _ ?_; clear hK K) | (apply Exists.intro; refine ⟨fun _ => ?_, hK _ ?_⟩; (first | (go_at_call 202; exact (HN.out _)) | (go_at_call 128; exact (HP.out _))); clear hK K) | (simp only [↓IntWalk.iteOmega]; (try go_simp); (try (go_ints; try go_simp)); first | (refine hK _ ?_; clear hK K) | (apply Exists.intro; refine ⟨fun _ => ?_, hK _ ?_⟩; (first | (go_at_call 202; exact (HN.out _)) | (go_at_call 128; exact (HP.out _))); clear hK K))); (refine walkP_step (fun K hK => ?_); go_simp; (try (go_ints; try go_simp)); first | (refine hK _ ?_; clear hK K) | (apply Exists.intro; refine ⟨fun _ => ?_, hK _ ?_⟩; (first | (go_at_call 202; exact (HN.out _)) | (go_at_call 128; exact (HP.out _))); clear hK K) | (simp only [↓IntWalk.iteOmega]; (try go_simp); (try (go_ints; try go_simp)); first | (refine hK _ ?_; clear hK K) | (apply Exists.intro; refine ⟨fun _ => ?_, hK _ ?_⟩; (first | (go_at_call 202; exact (HN.out _)) | (go_at_call 128; exact (HP.out _))); clear hK K)))
      refine walkP_nil ⟨?_, List.forall_mem_cons.2 ⟨?_, fun _ h => nomatch h⟩, fun xs F hF => ?_⟩
      · simp [dstO]
      · intro ow how xs wc hxc hF hd R hR
        simp only [List.getElem?_cons_succ, List.getElem?_cons_zero, Option.some.injEq] at how
        subst how
        simp only [puts, List.map_nil]
        go_simp
        simp only [anyUpon]
        exact hR _ _ ((Ext.refl _).alloc _) (cel_two _ _ _)
      simp only [dstO, puts, List.map_cons, List.map_nil, List.getElem?_cons_succ, List.getElem?_cons_zero, Option.bind_some, Option.getD_some] at hF ⊢
      have hF9 : ∀ w', F w' → Cel [.int .u64 (z : Int), .int .i64 (r 0)] (xs 34) w' := fun w' h => (hF w' h).2 (9, []) (by simp)
      clear hF
      refine walkP_nil ?_
      clear hgr
      intro w1 hE hFw
      replace hE : Ext wp w1 := ((Ext.refl wp).drew).trans hE
      obtain ⟨b2, f4, f5, f6⟩ := hF9 w1 hFw
      have HO1 := Lib.hid (own_ext HO.out ((by (repeat' (first | (with_reducible exact Ext.refl _) | (with_reducible assumption) | (with_reducible refine Ext.alloc ?_ _) | (with_reducible refine Ext.drew ?_) | (with_reducible refine Ext.drewN ?_ _) | (with_reducible refine Ext.setCell ?_ ?_ _) | (with_reducible refine Ext.trans ?_ (by assumption)))) <;> (first | (with_reducible assumption) | omega | (simp; done) | (simp; omega))) : Ext wo w1))
      have HF6 := Lib.hid f6
      have hz1 := hE.size
      clear hF9 hFw f6
      skip
      refine wpList_append_own _ (by rfl) _ _ 126 (by rfl) w.heap.size 134 i0 (.agg #[.int .u64 0, .int .i64 0]) 2 16 Try.underlying126 hi iz0 iz1 iz2 (by rfl) (by decide) _ _ _ (by rfl) HO1.out ⟨b2, 0, none⟩ 1 1 [.int .u64 (z : Int), .int .i64 (r 0)] (by first | rfl | exact f4) (by rfl) HF6.out (by simp [Value.oneCell']) (by unfold maxLen; omega) (by omega) (by first | omega | (simp; omega)) ?_
      intro v1 w2 hown hgrow _
      go_wp2
      have hxe : Ext w w2 := own_push0 (hx.trans ((by (repeat' (first | (with_reducible exact Ext.refl _) | (with_reducible assumption) | (with_reducible refine Ext.alloc ?_ _) | (with_reducible refine Ext.drew ?_) | (with_reducible refine Ext.drewN ?_ _) | (with_reducible refine Ext.setCell ?_ ?_ _) | (with_reducible refine Ext.trans ?_ (by assumption)))) <;> (first | (with_reducible assumption) | omega | (simp; done) | (simp; omega))) : Ext wo w1)) (Nat.le_refl _) HO1.out hgrow
      have hs2 := hgrow.size
      refine ⟨⟨j + 1, by omega, by go_num, hxe, by omega, ?_⟩, by simp [intOf]; omega⟩
      rw [HL.out]
      exact hown
    · obtain rfl : j = n := by omega
      go_wp2
      go_returns
      exact ⟨_, rfl, (by (repeat' (first | (with_reducible exact Ext.refl _) | (with_reducible assumption) | (with_reducible refine Ext.alloc ?_ _) | (with_reducible refine Ext.drew ?_) | (with_reducible refine Ext.drewN ?_ _) | (with_reducible refine Ext.setCell ?_ ?_ _) | (with_reducible refine Ext.trans ?_ (by assumption)))) <;> (first | (with_reducible assumption) | omega | (simp; done) | (simp; omega))), HO.out⟩
theorem layersOf_bad (n j0 : Nat) (g : Nat → Int) (hn : n ≤ 1048576) (hj0 : j0 < n) (hg : ∀ j, j < j0 → prB (rowG g j) = true) (hb0 : prB (rowG g j0) = false) (B : Nat) (v : Value) (w : World) (ho : w.ownsRow B 122 9 v n (Gl (n * 9) g)) :
    Calls Try.prog 133 #[v] w fun e w' => e = .returned (.tuple #[.slice none 0 0, .bool false]) ∧ Ext w w' := by
  obtain ⟨i0, hi, iz0, iz1, iz2⟩ := info_parts info_lay
  obtain ⟨ao, cap, rfl, hsh⟩ := own_shape ho
  have HI := Lib.hid ho
  have HK := Lib.hid hg
  have HB0 := Lib.hid hb0
  clear ho hg hb0
  go_enter Try.func133, Try.ntmps133
  go_wp2
  go_loopw [4, 12] (fun u i wr => ∃ j : Nat, j ≤ j0 ∧ i = .int .i64 j ∧ Ext w wr ∧ w.heap.size < wr.heap.size ∧ wr.ownsRow w.heap.size 134 2 u j (lays (laysG g j))) (fun _ i _ => n - (intOf i).toNat)
  case atStart => exact ⟨0, Nat.zero_le _, rfl, (by (repeat' (first | (with_reducible exact Ext.refl _) | (with_reducible assumption) | (with_reducible refine Ext.alloc ?_ _) | (with_reducible refine Ext.drew ?_) | (with_reducible refine Ext.drewN ?_ _) | (with_reducible refine Ext.setCell ?_ ?_ _) | (with_reducible refine Ext.trans ?_ (by assumption)))) <;> (first | (with_reducible assumption) | omega | (simp; done) | (simp; omega))), by simp, own_empty _ 134 2 _ (by simp) (by simp)⟩
  case round =>
    obtain ⟨j, hj, rfl, hx, hz, ho⟩ := hrel
    obtain ⟨wo, rfl⟩ : ∃ wo : World, wo = wr := ⟨_, rfl⟩
    have HO := Lib.hid ho
    clear ho
    have hltn : j < n := by omega
    obtain ⟨b, rfl, _, hb⟩ := hsh (by omega)
    obtain ⟨r, hr⟩ : ∃ r : Nat → Int, r = rowG g j := ⟨_, rfl⟩
    have c0 : wo.cell? ⟨b, j * 9 + 0, none⟩ = some (.int .i64 (r 0)) := by rw [hr]; exact ((own_ext HI.out hx).cellAt (j * 9 + 0) (by omega)).trans (Gl_get (by omega))
    have c1 : wo.cell? ⟨b, j * 9 + 1, none⟩ = some (.int .i64 (r 1)) := by rw [hr]; exact ((own_ext HI.out hx).cellAt (j * 9 + 1) (by omega)).trans (Gl_get (by omega))
    have c2 : wo.cell? ⟨b, j * 9 + 2, none⟩ = some (.int .i64 (r 2)) := by rw [hr]; exact ((own_ext HI.out hx).cellAt (j * 9 + 2) (by omega)).trans (Gl_get (by omega))
    have c3 : wo.cell? ⟨b, j * 9 + 3, none⟩ = some (.int .i64 (r 3)) := by rw [hr]; exact ((own_ext HI.out hx).cellAt (j * 9 + 3) (by omega)).trans (Gl_get (by omega))
    have c4 : wo.cell? ⟨b, j * 9 + 4, none⟩ = some (.int .i64 (r 4)) := by rw [hr]; exact ((own_ext HI.out hx).cellAt (j * 9 + 4) (by omega)).trans (Gl_get (by omega))
    have c5 : wo.cell? ⟨b, j * 9 + 5, none⟩ = some (.int .i64 (r 5)) := by rw [hr]; exact ((own_ext HI.out hx).cellAt (j * 9 + 5) (by omega)).trans (Gl_get (by omega))
    have c6 : wo.cell? ⟨b, j * 9 + 6, none⟩ = some (.int .i64 (r 6)) := by rw [hr]; exact ((own_ext HI.out hx).cellAt (j * 9 + 6) (by omega)).trans (Gl_get (by omega))
    have c7 : wo.cell? ⟨b, j * 9 + 7, none⟩ = some (.int .i64 (r 7)) := by rw [hr]; exact ((own_ext HI.out hx).cellAt (j * 9 + 7) (by omega)).trans (Gl_get (by omega))
    have c8 : wo.cell? ⟨b, j * 9 + 8, none⟩ = some (.int .i64 (r 8)) := by rw [hr]; exact ((own_ext HI.out hx).cellAt (j * 9 + 8) (by omega)).trans (Gl_get (by omega))
    rw [Nat.add_zero] at c0
    by_cases hlt : j < j0
    · have hok := HK.out j hlt
      rw [← hr] at hok
      obtain ⟨hv, x, y, e7, e8, hx6, hy6⟩ := prB_parts hok
      obtain ⟨q, hq⟩ : ∃ q, q = y * 6 + x := ⟨_, rfl⟩
      have hL := layG_is hr e7 e8
      have HIP := Lib.hid (fun w => IsPrint_any r w)
      rw [hok] at HIP
      have HS := Lib.hid (show ∀ w, Calls Try.prog 108 #[.agg #[.int .i64 (r 1), .int .i64 (r 2), .int .i64 (r 3), .int .i64 (r 4), .int .i64 (r 5), .int .i64 (r 6)]] w fun e w' => e = .returned (.tuple #[.int .u64 (setN (fun k => r (k + 1)) : Int), .bool true]) ∧ Ext w w' from fun w => setOf_is (fun k => r (k + 1)) true hv w)
      have hs36 := setN_lt (fun k => r (k + 1))
      generalize setN (fun k => r (k + 1)) = s at *
      have HN := Lib.hid (fun w => number_any x y hx6 hy6 w)
      rw [← hq, ← e7, ← e8] at HN
      have HP := Lib.hid (fun w => pressed_any s q hs36 (by omega) w)
      rw [show q % 6 = x by omega, show q / 6 = y by omega] at HP
      have HL := Lib.hid (show lays (laysG g (j + 1)) = lays (laysG g j) ++ [.int .u64 (sh s x y : Nat), .int .i64 (r 0)] by rw [laysG_succ, lays_append, hL]; rfl)
      clear hok hv e7 e8 hL hr hq
      generalize sh s x y = z at *
      skip
      skip
      have tk0 := Lib.hid True.intro; have tk1 := Lib.hid True.intro
      go_wp2_with (first | (clear tk0; (go_at_call 201; refine (HIP.out _).mono ?_; rintro e w1 ⟨rfl, hE⟩; replace k0_0 : w1.cell? ⟨wo.heap.size, 0, none⟩ = some (.int .i64 (r 0)) := (hE.cells _ _ (by first | exact l0 | (simp; done) | (simp; omega))).trans (by first | exact k0_0 | (go_simp; done)); replace k0_1 : w1.cell? ⟨wo.heap.size, 1, none⟩ = some (.int .i64 (r 1)) := (hE.cells _ _ (by first | exact l0 | (simp; done) | (simp; omega))).trans (by first | exact k0_1 | (go_simp; done)); replace k0_2 : w1.cell? ⟨wo.heap.size, 2, none⟩ = some (.int .i64 (r 2)) := (hE.cells _ _ (by first | exact l0 | (simp; done) | (simp; omega))).trans (by first | exact k0_2 | (go_simp; done)); replace k0_3 : w1.cell? ⟨wo.heap.size, 3, none⟩ = some (.int .i64 (r 3)) := (hE.cells _ _ (by first | exact l0 | (simp; done) | (simp; omega))).trans (by first | exact k0_3 | (go_simp; done)); replace k0_4 : w1.cell? ⟨wo.heap.size, 4, none⟩ = some (.int .i64 (r 4)) := (hE.cells _ _ (by first | exact l0 | (simp; done) | (simp; omega))).trans (by first | exact k0_4 | (go_simp; done)); replace k0_5 : w1.cell? ⟨wo.heap.size, 5, none⟩ = some (.int .i64 (r 5)) := (hE.cells _ _ (by first | exact l0 | (simp; done) | (simp; omega))).trans (by first | exact k0_5 | (go_simp; done)); replace k0_6 : w1.cell? ⟨wo.heap.size, 6, none⟩ = some (.int .i64 (r 6)) := (hE.cells _ _ (by first | exact l0 | (simp; done) | (simp; omega))).trans (by first | exact k0_6 | (go_simp; done)); replace k0_7 : w1.cell? ⟨wo.heap.size, 7, none⟩ = some (.int .i64 (r 7)) := (hE.cells _ _ (by first | exact l0 | (simp; done) | (simp; omega))).trans (by first | exact k0_7 | (go_simp; done)); replace k0_8 : w1.cell? ⟨wo.heap.size, 8, none⟩ = some (.int .i64 (r 8)) := (hE.cells _ _ (by first | exact l0 | (simp; done) | (simp; omega))).trans (by first | exact k0_8 | (go_simp; done)); replace l0 : wo.heap.size < w1.heap.size := Nat.lt_of_lt_of_le (by first | exact l0 | (simp; done) | (simp; omega)) hE.size)) | (clear tk1; ((go_at_call 108; refine (HS.out _).mono ?_; rintro e w1 ⟨rfl, hE⟩; replace k0_0 : w1.cell? ⟨wo.heap.size, 0, none⟩ = some (.int .i64 (r 0)) := (hE.cells _ _ (by first | exact l0 | (simp; done) | (simp; omega))).trans (by first | exact k0_0 | (go_simp; done)); replace k0_1 : w1.cell? ⟨wo.heap.size, 1, none⟩ = some (.int .i64 (r 1)) := (hE.cells _ _ (by first | exact l0 | (simp; done) | (simp; omega))).trans (by first | exact k0_1 | (go_simp; done)); replace k0_2 : w1.cell? ⟨wo.heap.size, 2, none⟩ = some (.int .i64 (r 2)) := (hE.cells _ _ (by first | exact l0 | (simp; done) | (simp; omega))).trans (by first | exact k0_2 | (go_simp; done)); replace k0_3 : w1.cell? ⟨wo.heap.size, 3, none⟩ = some (.int .i64 (r 3)) := (hE.cells _ _ (by first | exact l0 | (simp; done) | (simp; omega))).trans (by first | exact k0_3 | (go_simp; done)); replace k0_4 : w1.cell? ⟨wo.heap.size, 4, none⟩ = some (.int .i64 (r 4)) := (hE.cells _ _ (by first | exact l0 | (simp; done) | (simp; omega))).trans (by first | exact k0_4 | (go_simp; done)); replace k0_5 : w1.cell? ⟨wo.heap.size, 5, none⟩ = some (.int .i64 (r 5)) := (hE.cells _ _ (by first | exact l0 | (simp; done) | (simp; omega))).trans (by first | exact k0_5 | (go_simp; done)); replace k0_6 : w1.cell? ⟨wo.heap.size, 6, none⟩ = some (.int .i64 (r 6)) := (hE.cells _ _ (by first | exact l0 | (simp; done) | (simp; omega))).trans (by first | exact k0_6 | (go_simp; done)); replace k0_7 : w1.cell? ⟨wo.heap.size, 7, none⟩ = some (.int .i64 (r 7)) := (hE.cells _ _ (by first | exact l0 | (simp; done) | (simp; omega))).trans (by first | exact k0_7 | (go_simp; done)); replace k0_8 : w1.cell? ⟨wo.heap.size, 8, none⟩ = some (.int .i64 (r 8)) := (hE.cells _ _ (by first | exact l0 | (simp; done) | (simp; omega))).trans (by first | exact k0_8 | (go_simp; done)); replace l0 : wo.heap.size < w1.heap.size := Nat.lt_of_lt_of_le (by first | exact l0 | (simp; done) | (simp; omega)) hE.size); obtain ⟨wp, rfl⟩ : ∃ x, x = w1 := ⟨_, rfl⟩)))
      have hwp : wo.heap.size < wp.heap.size := l0
      refine wp_made [(0, true), (1, true), (2, true), (3, true), (4, true), (5, true), (6, true), (7, true), (8, true)] [(9, [])] [] [10, 11] (fun _ => Cel [.int .u64 (z : Int), .int .i64 (r 0)]) (by kernel_rfl) (by kernel_rfl) ?_ ?_
      · exact fun i x => cel_stable _ _
      simp only [pickO, pickT, List.getElem?_cons_succ, List.getElem?_cons_zero]
      intro hgr
      (refine walkP_step (fun K hK => ?_); go_simp; (try (go_ints; try go_simp)); first | (refine hK _ ?_; clear hK K) | (apply Exists.intro; refine ⟨fun _ => ?_, hK _ ?_⟩; (first | (go_at_call 202; exact (HN.out _)) | (go_at_call 128; exact (HP.out _))); clear hK K) | (simp only [↓IntWalk.iteOmega]; (try go_simp); (try (go_ints; try go_simp)); first | (refine hK _ ?_; clear hK K) | (apply Exists.intro; refine ⟨fun _ => ?_, hK _ ?_⟩; (first | (go_at_call 202; exact (HN.out _)) | (go_at_call 128; exact (HP.out _))); clear hK K))); (refine walkP_step (fun K hK => ?_); go_simp; (try (go_ints; try go_simp)); first | (refine hK _ ?_; clear hK K) | (apply Exists.intro; refine ⟨fun _ => ?_, hK _ ?_⟩; (first | (go_at_call 202; exact (HN.out _)) | (go_at_call 128; exact (HP.out _))); clear hK K) | (simp only [↓IntWalk.iteOmega]; (try go_simp); (try (go_ints; try go_simp)); first | (refine hK _ ?_; clear hK K) | (apply Exists.intro; refine ⟨fun _ => ?_, hK _ ?_⟩; (first | (go_at_call 202; exact (HN.out _)) | (go_at_call 128; exact (HP.out _))); clear hK K))); (refine walkP_step (fun K hK => ?_); go_simp; (try (go_ints; try go_simp)); first | (refine hK _ ?_; clear hK K) | (apply Exists.intro; refine ⟨fun _ => ?_, hK _ ?_⟩; (first | (go_at_call 202; exact (HN.out _)) | (go_at_call 128; exact (HP.out _))); clear hK K) | (simp only [↓IntWalk.iteOmega]; (try go_simp); (try (go_ints; try go_simp)); first | (refine hK _ ?_; clear hK K) | (apply Exists.intro; refine ⟨fun _ => ?_, hK _ ?_⟩; (first | (go_at_call 202; exact (HN.out _)) | (go_at_call 128; exact (HP.out _))); clear hK K))); (refine walkP_step (fun K hK => ?_); go_simp; (try (go_ints; try go_simp)); first | (refine hK _ ?_; clear hK K) | (apply Exists.intro; refine ⟨fun _ => ?_, hK _ ?_⟩; (first | (go_at_call 202; exact (HN.out _)) | (go_at_call 128; exact (HP.out _))); clear hK K) | (simp only [↓IntWalk.iteOmega]; (try go_simp); (try (go_ints; try go_simp)); first | (refine hK _ ?_; clear hK K) | (apply Exists.intro; refine ⟨fun _ => ?_, hK _ ?_⟩; (first | (go_at_call 202; exact (HN.out _)) | (go_at_call 128; exact (HP.out _))); clear hK K))); (refine walkP_step (fun K hK => ?_); go_simp; (try (go_ints; try go_simp)); first | (refine hK _ ?_; clear hK K) | (apply Exists.intro; refine ⟨fun _ => ?_, hK _ ?_⟩; (first | (go_at_call 202; exact (HN.out _)) | (go_at_call 128; exact (HP.out _))); clear hK K) | (simp only [↓IntWalk.iteOmega]; (try go_simp); (try (go_ints; try go_simp)); first | (refine hK _ ?_; clear hK K) | (apply Exists.intro; refine ⟨fun _ => ?_, hK _ ?_⟩; (first | (go_at_call 202; exact (HN.out _)) | (go_at_call 128; exact (HP.out _))); clear hK K))); (refine walkP_step (fun K hK => ?_); go_simp; (try (go_ints; try go_simp)); first | (refine hK _ ?_; clear hK K) | (apply Exists.intro; refine ⟨fun _ => ?_, hK _ ?_⟩; (first | (go_at_call 202; exact (HN.out _)) | (go_at_call 128; exact (HP.out _))); clear hK K) | (simp only [↓IntWalk.iteOmega]; (try go_simp); (try (go_ints; try go_simp)); first | (refine hK _ ?_; clear hK K) | (apply Exists.intro; refine ⟨fun _ => ?_, hK _ ?_⟩; (first | (go_at_call 202; exact (HN.out _)) | (go_at_call 128; exact (HP.out _))); clear hK K))); (refine walkP_step (fun K hK => ?_); go_simp; (try (go_ints; try go_simp)); first | (refine hK _ ?_; clear hK K) | (apply Exists.intro; refine ⟨fun _ => ?_, hK _ ?_⟩; (first | (go_at_call 202; exact (HN.out _)) | (go_at_call 128; exact (HP.out _))); clear hK K) | (simp only [↓IntWalk.iteOmega]; (try go_simp); (try (go_ints; try go_simp)); first | (refine hK _ ?_; clear hK K) | (apply Exists.intro; refine ⟨fun _ => ?_, hK _ ?_⟩; (first | (go_at_call 202; exact (HN.out _)) | (go_at_call 128; exact (HP.out _))); clear hK K))); (refine walkP_step (fun K hK => ?_); go_simp; (try (go_ints; try go_simp)); first | (refine hK _ ?_; clear hK K) | (apply Exists.intro; refine ⟨fun _ => ?_, hK _ ?_⟩; (first | (go_at_call 202; exact (HN.out _)) | (go_at_call 128; exact (HP.out _))); clear hK K) | (simp only [↓IntWalk.iteOmega]; (try go_simp); (try (go_ints; try go_simp)); first | (refine hK _ ?_; clear hK K) | (apply Exists.intro; refine ⟨fun _ => ?_, hK _ ?_⟩; (first | (go_at_call 202; exact (HN.out _)) | (go_at_call 128; exact (HP.out _))); clear hK K))); (refine walkP_step (fun K hK => ?_); go_simp; (try (go_ints; try go_simp)); first | (refine hK _ ?_; clear hK K) | (apply Exists.intro; refine ⟨fun _ => ?_, hK _ ?_⟩; (first | (go_at_call 202; exact (HN.out _)) | (go_at_call 128; exact (HP.out _))); clear hK K) | (simp only [↓IntWalk.iteOmega]; (try go_simp); (try (go_ints; try go_simp)); first | (refine hK _ ?_; clear hK K) | (apply Exists.intro; refine ⟨fun _ => ?_, hK _ ?_⟩; (first | (go_at_call 202; exact (HN.out _)) | (go_at_call 128; exact (HP.out _))); clear hK K)))
      refine walkP_nil ⟨?_, List.forall_mem_cons.2 ⟨?_, fun _ h => nomatch h⟩, fun xs F hF => ?_⟩
      · simp [dstO]
      · intro ow how xs wc hxc hF hd R hR
        simp only [List.getElem?_cons_succ, List.getElem?_cons_zero, Option.some.injEq] at how
        subst how
        simp only [puts, List.map_nil]
        go_simp
        simp only [anyUpon]
        exact hR _ _ ((Ext.refl _).alloc _) (cel_two _ _ _)
      simp only [dstO, puts, List.map_cons, List.map_nil, List.getElem?_cons_succ, List.getElem?_cons_zero, Option.bind_some, Option.getD_some] at hF ⊢
      have hF9 : ∀ w', F w' → Cel [.int .u64 (z : Int), .int .i64 (r 0)] (xs 34) w' := fun w' h => (hF w' h).2 (9, []) (by simp)
      clear hF
      refine walkP_nil ?_
      clear hgr
      intro w1 hE hFw
      replace hE : Ext wp w1 := ((Ext.refl wp).drew).trans hE
      obtain ⟨b2, f4, f5, f6⟩ := hF9 w1 hFw
      have HO1 := Lib.hid (own_ext HO.out ((by (repeat' (first | (with_reducible exact Ext.refl _) | (with_reducible assumption) | (with_reducible refine Ext.alloc ?_ _) | (with_reducible refine Ext.drew ?_) | (with_reducible refine Ext.drewN ?_ _) | (with_reducible refine Ext.setCell ?_ ?_ _) | (with_reducible refine Ext.trans ?_ (by assumption)))) <;> (first | (with_reducible assumption) | omega | (simp; done) | (simp; omega))) : Ext wo w1))
      have HF6 := Lib.hid f6
      have hz1 := hE.size
      clear hF9 hFw f6
      skip
      refine wpList_append_own _ (by rfl) _ _ 126 (by rfl) w.heap.size 134 i0 (.agg #[.int .u64 0, .int .i64 0]) 2 16 Try.underlying126 hi iz0 iz1 iz2 (by rfl) (by decide) _ _ _ (by rfl) HO1.out ⟨b2, 0, none⟩ 1 1 [.int .u64 (z : Int), .int .i64 (r 0)] (by first | rfl | exact f4) (by rfl) HF6.out (by simp [Value.oneCell']) (by unfold maxLen; omega) (by omega) (by first | omega | (simp; omega)) ?_
      intro v1 w2 hown hgrow _
      go_wp2
      have hxe : Ext w w2 := own_push0 (hx.trans ((by (repeat' (first | (with_reducible exact Ext.refl _) | (with_reducible assumption) | (with_reducible refine Ext.alloc ?_ _) | (with_reducible refine Ext.drew ?_) | (with_reducible refine Ext.drewN ?_ _) | (with_reducible refine Ext.setCell ?_ ?_ _) | (with_reducible refine Ext.trans ?_ (by assumption)))) <;> (first | (with_reducible assumption) | omega | (simp; done) | (simp; omega))) : Ext wo w1)) (Nat.le_refl _) HO1.out hgrow
      have hs2 := hgrow.size
      refine ⟨⟨j + 1, by omega, by go_num, hxe, by omega, ?_⟩, by simp [intOf]; omega⟩
      rw [HL.out]
      exact hown
    · obtain rfl : j = j0 := by omega
      have hok := HB0.out
      rw [← hr] at hok
      have HIP := Lib.hid (fun w => IsPrint_any r w)
      rw [hok] at HIP
      clear hok hr
      skip
      skip
      go_wp2_with (go_at_call 201; refine (HIP.out _).mono ?_; rintro e w1 ⟨rfl, hE⟩; replace k0_0 : w1.cell? ⟨wo.heap.size, 0, none⟩ = some (.int .i64 (r 0)) := (hE.cells _ _ (by first | exact l0 | (simp; done) | (simp; omega))).trans (by first | exact k0_0 | (go_simp; done)); replace k0_1 : w1.cell? ⟨wo.heap.size, 1, none⟩ = some (.int .i64 (r 1)) := (hE.cells _ _ (by first | exact l0 | (simp; done) | (simp; omega))).trans (by first | exact k0_1 | (go_simp; done)); replace k0_2 : w1.cell? ⟨wo.heap.size, 2, none⟩ = some (.int .i64 (r 2)) := (hE.cells _ _ (by first | exact l0 | (simp; done) | (simp; omega))).trans (by first | exact k0_2 | (go_simp; done)); replace k0_3 : w1.cell? ⟨wo.heap.size, 3, none⟩ = some (.int .i64 (r 3)) := (hE.cells _ _ (by first | exact l0 | (simp; done) | (simp; omega))).trans (by first | exact k0_3 | (go_simp; done)); replace k0_4 : w1.cell? ⟨wo.heap.size, 4, none⟩ = some (.int .i64 (r 4)) := (hE.cells _ _ (by first | exact l0 | (simp; done) | (simp; omega))).trans (by first | exact k0_4 | (go_simp; done)); replace k0_5 : w1.cell? ⟨wo.heap.size, 5, none⟩ = some (.int .i64 (r 5)) := (hE.cells _ _ (by first | exact l0 | (simp; done) | (simp; omega))).trans (by first | exact k0_5 | (go_simp; done)); replace k0_6 : w1.cell? ⟨wo.heap.size, 6, none⟩ = some (.int .i64 (r 6)) := (hE.cells _ _ (by first | exact l0 | (simp; done) | (simp; omega))).trans (by first | exact k0_6 | (go_simp; done)); replace k0_7 : w1.cell? ⟨wo.heap.size, 7, none⟩ = some (.int .i64 (r 7)) := (hE.cells _ _ (by first | exact l0 | (simp; done) | (simp; omega))).trans (by first | exact k0_7 | (go_simp; done)); replace k0_8 : w1.cell? ⟨wo.heap.size, 8, none⟩ = some (.int .i64 (r 8)) := (hE.cells _ _ (by first | exact l0 | (simp; done) | (simp; omega))).trans (by first | exact k0_8 | (go_simp; done)); replace l0 : wo.heap.size < w1.heap.size := Nat.lt_of_lt_of_le (by first | exact l0 | (simp; done) | (simp; omega)) hE.size)
      go_returns
      exact ⟨rfl, (by (repeat' (first | (with_reducible exact Ext.refl _) | (with_reducible assumption) | (with_reducible refine Ext.alloc ?_ _) | (with_reducible refine Ext.drew ?_) | (with_reducible refine Ext.drewN ?_ _) | (with_reducible refine Ext.setCell ?_ ?_ _) | (with_reducible refine Ext.trans ?_ (by assumption)))) <;> (first | (with_reducible assumption) | omega | (simp; done) | (simp; omega)))⟩
theorem picture_n (L : List (Nat × Int)) (hL : ∀ (i : Nat) (l : Nat × Int), L[i]? = some l → l.1 < 68719476736) (hlen : L.length < 2000000) (B : Nat) (v : Value) (w : World) (ho : w.ownsRow B 134 2 v L.length (lays L)) :
    Calls Try.prog 134 #[v] w fun e w' => e = .returned (.agg (av 36 (picL L))) ∧ Ext w w' := by
  obtain ⟨ao, cap, rfl, hsh⟩ := own_shape ho
  have HI := Lib.hid ho
  have HG := Lib.hid hL
  clear ho hL
  have hx0 : Ext w (w.alloc (.cells (av 36 (fun _ => 0)) 57)) := (Ext.refl w).alloc _
  go_enter Try.func134, Try.ntmps134
  go_wp2_with (first
    | (refine wpList_alloc_av rfl (makesIP rfl) ?_; (try go_simp))
    | (refine wpList_value rfl (buildIP rfl) ?_; (try go_simp))
    | (refine wpList_store_new rfl rfl rfl rfl (b := w.heap.size + 1) (Big.new _ 57 36 (fun _ => 0) (by simp)) (szz6 _ _ _) (szIP _) (av_one _ _) ?_; intro w1 hO hN; (try go_simp)))
  have HR0 := Lib.hid (((Big.new w 57 36 (fun _ => 0) rfl).ext ((Ext.refl _).alloc (.cells (av 36 (fun _ => 0)) 57))).only hO (by omega))
  have HX0 := Lib.hid (show Ext w w1 from hO.ext ((Ext.refl w).alloc _ |>.alloc _) (by omega))
  have HP0 := Lib.hid (show Big w1 (w.heap.size + 1) 57 36 (fun _ => 0) from hN)
  have hs1 : w1.heap.size = w.heap.size + 2 := by rw [hO.size]; simp
  obtain ⟨wa, rfl⟩ : ∃ x, x = w1 := ⟨_, rfl⟩
  clear hO hN hx0
  go_wp2
  go_loopw [11] (fun i wr => ∃ j : Nat, j ≤ L.length ∧ i = .int .i64 j ∧ Ext w wr ∧ Big wr w.heap.size 57 36 (fun _ => 0) ∧ Big wr (w.heap.size + 1) 57 36 (picL (L.take j)) ∧ w.heap.size + 1 < wr.heap.size) (fun i _ => L.length - (intOf i).toNat)
  case atStart => exact ⟨0, Nat.zero_le _, rfl, HX0.out, HR0.out, by rw [List.take_zero]; exact HP0.out, by omega⟩
  case round =>
    clear HX0 HR0 HP0 hs1
    obtain ⟨j, hj, rfl, hx, hr, hp, hz⟩ := hrel
    obtain ⟨wo, rfl⟩ : ∃ wo : World, wo = wr := ⟨_, rfl⟩
    have HR := Lib.hid hr
    have HP := Lib.hid hp
    clear hr hp
    by_cases hlt : j < L.length
    · obtain ⟨b, rfl, _, hb⟩ := hsh (by omega)
      obtain ⟨⟨n, c⟩, hk⟩ : ∃ l, L[j]? = some l := ⟨L[j], List.getElem?_eq_getElem hlt⟩
      have hn36 := HG.out j _ hk
      have lg := lays_get L j _ hk
      have c1 := ((own_ext HI.out hx).cellAt (j * 2) (by omega)).trans lg.1
      have c2 := ((own_ext HI.out hx).cellAt (j * 2 + 1) (by omega)).trans lg.2
      have HS := Lib.hid (picL_step L j _ hk)
      have HLI := Lib.hid (fun w => list_n n hn36 w)
      have HF := Lib.hid (fun k hk => inkd_all (picL (L.take j)) c n k hk)
      have HM := Lib.hid (fun i k (h : (fl n.testBit 36)[i]? = some k) => fl_lt h)
      have hml := fl_le n.testBit 36
      clear hk lg
      dsimp only at c1 c2 hn36
      generalize fl n.testBit 36 = M at *
      generalize picL (L.take j) = P at *
      go_wp2_with (go_at_call 203; refine (HLI.out _).mono ?_; rintro e w1 ⟨u, rfl, hE, ho⟩; obtain ⟨uo, uc, rfl, hus⟩ := own_shape ho; have HO := Lib.hid ho; clear ho; obtain ⟨wb, rfl⟩ : ∃ x, x = w1 := ⟨_, rfl⟩)
      have hs2 := hE.size
      simp at hs2
      have zb : w.heap.size + 1 < wb.heap.size := by omega
      have HR2 := Lib.hid ((HR.out.ext ((Ext.refl _).alloc _)).ext hE)
      have HP2 := Lib.hid ((HP.out.ext ((Ext.refl _).alloc _)).ext hE)
      have k0 : wb.cell? ⟨wo.heap.size, 0, none⟩ = some (.int .u64 (n : Int)) := (hE.cells wo.heap.size 0 (by simp)).trans (by go_simp)
      have k1 : wb.cell? ⟨wo.heap.size, 1, none⟩ = some (.int .i64 c) := (hE.cells wo.heap.size 1 (by simp)).trans (by go_simp)
      have hxb : Ext w wb := (hx.alloc _).trans hE
      clear hE c1 c2
      go_loopw [19] (fun i wr => ∃ q : Nat, q ≤ M.length ∧ i = .int .i64 q ∧ Off (fun k => k = w.heap.size + 1) wb wr ∧ Big wr (w.heap.size + 1) 57 36 (inkd P c (M.take q))) (fun i _ => M.length - (intOf i).toNat)
      case atStart => exact ⟨0, Nat.zero_le _, rfl, Off.refl _ _, HP2.out.congr fun i _ => (inkd_0 P c i).symm⟩
      case round =>
        clear HP2
        obtain ⟨q, hq, rfl, hO, hp⟩ := hrel
        obtain ⟨wi, rfl⟩ : ∃ wi : World, wi = wr := ⟨_, rfl⟩
        have HPI := Lib.hid hp
        clear hp
        have hsi := hO.size
        by_cases hlq : q < M.length
        · obtain ⟨ub, rfl, hub0, hub⟩ := hus (by omega)
          obtain ⟨k, hk⟩ : ∃ k, M[q]? = some k := ⟨M[q], List.getElem?_eq_getElem hlq⟩
          have hk36 := HM.out q k hk
          simp at hub0
          have d1 := (hO.cell hub (by omega) q).trans ((HO.out.cellAt q (by omega)).trans (ints_get M q k hk))
          have k1i := (hO.cell (b := wo.heap.size) (by omega) (by omega) 1).trans k1
          have HT := Lib.hid (fun i => inkd_step P c M q k hk i)
          have hkx : k % 6 < 6 := by omega
          have hky : k / 6 < 6 := by omega
          have q1 : (k : Int) % 6 = ((k % 6 : Nat) : Int) := by omega
          have q2 : (k : Int) / 6 = ((k / 6 : Nat) : Int) := by omega
          have HK := Lib.hid (show k / 6 * 6 + k % 6 = k by omega)
          have t1 := HPI.out.cell (j := k / 6 * 6 + k % 6) (by omega)
          have t2 := HPI.out.free (k / 6 * 6 + k % 6)
          have zi : wo.heap.size < wi.heap.size := by omega
          have zi2 : w.heap.size + 1 < wi.heap.size := by omega
          clear hk
          generalize inkd P c (M.take q) (k / 6 * 6 + k % 6) = old at *
          generalize hKX : k % 6 = kx at *
          generalize hKY : k / 6 = ky at *
          clear hKX hKY
          skip
          go_wp2
          refine wp_calm 9 0 (fun _ => (#[], 0)) (by kernel_rfl) (by kernel_rfl) ?_; simp only [List.take_succ_cons, List.take_zero, List.drop_succ_cons, List.drop_zero]; intro hgr; (refine walkQ_step (fun K hK => ?_); go_simp; (try (go_ints; try go_simp)); first | (refine hK _ ?_; clear hK K) | (apply Exists.intro; refine ⟨fun _ => ?_, hK _ ?_⟩; (fail); clear hK K) | (simp only [↓IntWalk.iteOmega]; (try go_simp); (try (go_ints; try go_simp)); first | (refine hK _ ?_; clear hK K) | (apply Exists.intro; refine ⟨fun _ => ?_, hK _ ?_⟩; (fail); clear hK K))); (refine walkQ_step (fun K hK => ?_); go_simp; (try (go_ints; try go_simp)); first | (refine hK _ ?_; clear hK K) | (apply Exists.intro; refine ⟨fun _ => ?_, hK _ ?_⟩; (fail); clear hK K) | (simp only [↓IntWalk.iteOmega]; (try go_simp); (try (go_ints; try go_simp)); first | (refine hK _ ?_; clear hK K) | (apply Exists.intro; refine ⟨fun _ => ?_, hK _ ?_⟩; (fail); clear hK K))); (refine walkQ_step (fun K hK => ?_); go_simp; (try (go_ints; try go_simp)); first | (refine hK _ ?_; clear hK K) | (apply Exists.intro; refine ⟨fun _ => ?_, hK _ ?_⟩; (fail); clear hK K) | (simp only [↓IntWalk.iteOmega]; (try go_simp); (try (go_ints; try go_simp)); first | (refine hK _ ?_; clear hK K) | (apply Exists.intro; refine ⟨fun _ => ?_, hK _ ?_⟩; (fail); clear hK K))); (refine walkQ_step (fun K hK => ?_); go_simp; (try (go_ints; try go_simp)); first | (refine hK _ ?_; clear hK K) | (apply Exists.intro; refine ⟨fun _ => ?_, hK _ ?_⟩; (fail); clear hK K) | (simp only [↓IntWalk.iteOmega]; (try go_simp); (try (go_ints; try go_simp)); first | (refine hK _ ?_; clear hK K) | (apply Exists.intro; refine ⟨fun _ => ?_, hK _ ?_⟩; (fail); clear hK K))); (refine walkQ_step (fun K hK => ?_); go_simp; (try (go_ints; try go_simp)); first | (refine hK _ ?_; clear hK K) | (apply Exists.intro; refine ⟨fun _ => ?_, hK _ ?_⟩; (fail); clear hK K) | (simp only [↓IntWalk.iteOmega]; (try go_simp); (try (go_ints; try go_simp)); first | (refine hK _ ?_; clear hK K) | (apply Exists.intro; refine ⟨fun _ => ?_, hK _ ?_⟩; (fail); clear hK K))); (refine walkQ_step (fun K hK => ?_); go_simp; (try (go_ints; try go_simp)); first | (refine hK _ ?_; clear hK K) | (apply Exists.intro; refine ⟨fun _ => ?_, hK _ ?_⟩; (fail); clear hK K) | (simp only [↓IntWalk.iteOmega]; (try go_simp); (try (go_ints; try go_simp)); first | (refine hK _ ?_; clear hK K) | (apply Exists.intro; refine ⟨fun _ => ?_, hK _ ?_⟩; (fail); clear hK K))); (refine walkQ_step (fun K hK => ?_); go_simp; (try (go_ints; try go_simp)); first | (refine hK _ ?_; clear hK K) | (apply Exists.intro; refine ⟨fun _ => ?_, hK _ ?_⟩; (fail); clear hK K) | (simp only [↓IntWalk.iteOmega]; (try go_simp); (try (go_ints; try go_simp)); first | (refine hK _ ?_; clear hK K) | (apply Exists.intro; refine ⟨fun _ => ?_, hK _ ?_⟩; (fail); clear hK K))); (refine walkQ_step (fun K hK => ?_); go_simp; (try (go_ints; try go_simp)); first | (refine hK _ ?_; clear hK K) | (apply Exists.intro; refine ⟨fun _ => ?_, hK _ ?_⟩; (fail); clear hK K) | (simp only [↓IntWalk.iteOmega]; (try go_simp); (try (go_ints; try go_simp)); first | (refine hK _ ?_; clear hK K) | (apply Exists.intro; refine ⟨fun _ => ?_, hK _ ?_⟩; (fail); clear hK K))); (refine walkQ_step (fun K hK => ?_); go_simp; (try (go_ints; try go_simp)); first | (refine hK _ ?_; clear hK K) | (apply Exists.intro; refine ⟨fun _ => ?_, hK _ ?_⟩; (fail); clear hK K) | (simp only [↓IntWalk.iteOmega]; (try go_simp); (try (go_ints; try go_simp)); first | (refine hK _ ?_; clear hK K) | (apply Exists.intro; refine ⟨fun _ => ?_, hK _ ?_⟩; (fail); clear hK K))); refine walkQ_nil ?_; clear hgr; refine walkF_nil ?_; intro w1 hE _; have hc2 := hE.cells; have hf2 := hE.frees; have hz2 := hE.size
          replace hE : Ext wi w1 := ((Ext.refl wi).drew).trans hE
          have HPI2 := Lib.hid (HPI.out.ext hE)
          have HO2 := Lib.hid (hO.trans (hE.off (fun k => k = w.heap.size + 1)))
          have t3 := HPI2.out.cell (j := ky * 6 + kx) (by omega)
          have t4 := HPI2.out.free (ky * 6 + kx)
          go_wp2
          (first | exact ⟨⟨q + 1, by omega, by go_num, Off.set (S := fun k => k = w.heap.size + 1) HO2.out (p := ⟨w.heap.size + 1, ky * 6 + kx, none⟩) rfl _, (HPI2.out.set (ky * 6 + kx) c).congr (fun i _ => by rw [HK.out]; exact HT.out i)⟩, by simp [intOf]; omega⟩ | (refine ⟨?_, by simp [intOf]; omega⟩; (repeat apply Exists.intro); exact ⟨⟨q + 1, by omega, by go_num, Off.set (S := fun k => k = w.heap.size + 1) HO2.out (p := ⟨w.heap.size + 1, ky * 6 + kx, none⟩) rfl _, (HPI2.out.set (ky * 6 + kx) c).congr (fun i _ => by rw [HK.out]; exact HT.out i)⟩, rfl⟩))
        · obtain rfl : q = M.length := by omega
          rw [List.take_length] at HPI
          have hxi : Ext w wi := Off.ext hxb hO (fun k hk => by omega)
          have HR3 := Lib.hid (show Big wi w.heap.size 57 36 (fun _ => 0) from (hO.block w.heap.size (by omega) (by omega)).trans HR2.out)
          go_wp2
          (first | exact ⟨⟨j + 1, by omega, by go_num, hxi, HR3.out, by rw [HS.out]; exact HPI.out.congr (fun i hi => HF.out i hi), by omega⟩, by simp [intOf]; omega⟩ | (refine ⟨?_, by simp [intOf]; omega⟩; (repeat apply Exists.intro); exact ⟨⟨j + 1, by omega, by go_num, hxi, HR3.out, by rw [HS.out]; exact HPI.out.congr (fun i hi => HF.out i hi), by omega⟩, rfl⟩))
    · obtain rfl : j = L.length := by omega
      rw [List.take_length] at HP
      go_wp2_with (first | (refine wpList_load_row rfl 57 (.tmp 3) rfl _ rfl _ _ _ _ HP.out Try.underlying57 rfl (szIP _) ?_; (try go_simp)) | (refine wpList_store_new rfl rfl rfl rfl (b := w.heap.size) HR.out (szz6 _ _ _) (szIP _) (av_one _ _) ?_; intro w1 hO hN; (try go_simp)))
      exact bodyPost_ret (resultsIP rfl rfl hN) rfl ⟨rfl, hO.ext hx (Nat.le_refl _)⟩
end Go.Proofs.Ytadnfocbfabjnaa
