/- Conv Sl Lists Spread: contracts of functions, and lemmas, for this seat. Conditions: as each states. -/
import Derived.Test.YtlifhoajamnehaaTd01
import Derived.Test.YtlifhoajamnehaaTd04
import Derived.Test.YtlifhoajamnehaaTd03
set_option linter.unusedVariables false
set_option linter.unusedSimpArgs false
set_option maxRecDepth 100000
set_option maxHeartbeats 1000000
namespace Go.Proofs.Ytlifhoajamnehaa
open Go Go.RowKit
theorem toIntA6_w (r : Nat → Int) (w : World) : Calls Try.prog 122 #[(.agg #[.int .i64 (r 0), .int .i64 (r 1), .int .i64 (r 2), .int .i64 (r 3), .int .i64 (r 4), .int .i64 (r 5)])] w fun e w' => e = .returned (.agg #[.int .i64 (r 0), .int .i64 (r 1), .int .i64 (r 2), .int .i64 (r 3), .int .i64 (r 4), .int .i64 (r 5)]) ∧ ((w.alloc (.cells #[.int .i64 (r 0), .int .i64 (r 1), .int .i64 (r 2), .int .i64 (r 3), .int .i64 (r 4), .int .i64 (r 5)] 24)).alloc (.cells #[.int .i64 (r 0), .int .i64 (r 1), .int .i64 (r 2), .int .i64 (r 3), .int .i64 (r 4), .int .i64 (r 5)] 24)).alloc (.cells #[.int .i64 (r 0), .int .i64 (r 1), .int .i64 (r 2), .int .i64 (r 3), .int .i64 (r 4), .int .i64 (r 5)] 24) = w' := by
  go_enter Try.func122, Try.ntmps122
  go_wp2
  go_rounds 7
  go_returns
  exact ⟨rfl, rfl⟩
theorem toIntA6_any (r : Nat → Int) (w : World) : Calls Try.prog 122 #[(.agg #[.int .i64 (r 0), .int .i64 (r 1), .int .i64 (r 2), .int .i64 (r 3), .int .i64 (r 4), .int .i64 (r 5)])] w fun e w' => e = .returned (.agg #[.int .i64 (r 0), .int .i64 (r 1), .int .i64 (r 2), .int .i64 (r 3), .int .i64 (r 4), .int .i64 (r 5)]) ∧ Ext w w' :=
  (toIntA6_w r w).mono fun e w' ⟨he, hw⟩ => ⟨he, by rw [← hw]; exact (((Ext.refl w).alloc _).alloc _).alloc _⟩
theorem toSheet_any (r : Nat → Int) (w : World) : Calls Try.prog 61 #[(.agg #[.int .i64 (r 0), .int .i64 (r 1), .int .i64 (r 2), .int .i64 (r 3), .int .i64 (r 4), .int .i64 (r 5)])] w fun e w' => e = .returned (.agg #[.int .i64 (r 0), .int .i64 (r 1), .int .i64 (r 2), .int .i64 (r 3), .int .i64 (r 4), .int .i64 (r 5)]) ∧ Ext w w' := by
  go_enter Try.func61, Try.ntmps61
  go_wp2_with (go_at_call 122; refine (toIntA6_w _ _).mono ?_; rintro e w' ⟨rfl, rfl⟩)
  go_returns
  exact ⟨rfl, (by (repeat' (first | (with_reducible exact Ext.refl _) | (with_reducible assumption) | (with_reducible refine Ext.alloc ?_ _) | (with_reducible refine Ext.drew ?_) | (with_reducible refine Ext.drewN ?_ _) | (with_reducible refine Ext.setCell ?_ ?_ _) | (with_reducible refine Ext.trans ?_ (by assumption)))) <;> (first | (with_reducible assumption) | omega | (simp; done) | (simp; omega)))⟩
theorem eqIntA2_same (x y : Int) (w : World) : Calls Try.prog 130 #[(.agg #[.int .i64 (x), .int .i64 (y)]), (.agg #[.int .i64 (x), .int .i64 (y)])] w fun e w' => e = .returned (.bool true) ∧ Ext w w' := by
  go_enter Try.func130, Try.ntmps130
  go_wp2
  refine wp_loop_rounds 3 ?_
  rw [rounds_succ]
  go_wp2
  go_quiet (fail)
  go_wp2
  rw [rounds_succ]
  go_wp2
  go_quiet (fail)
  go_wp2
  rw [rounds_succ]
  go_wp2
  go_ret
  exact ⟨rfl, (by (repeat' (first | (with_reducible exact Ext.refl _) | (with_reducible assumption) | (with_reducible refine Ext.alloc ?_ _) | (with_reducible refine Ext.drew ?_) | (with_reducible refine Ext.drewN ?_ _) | (with_reducible refine Ext.setCell ?_ ?_ _) | (with_reducible refine Ext.trans ?_ (by assumption)))) <;> (first | (with_reducible assumption) | omega | (simp; done) | (simp; omega)))⟩
end Go.Proofs.Ytlifhoajamnehaa
set_option linter.unusedVariables false
set_option linter.unusedSimpArgs false
set_option maxRecDepth 100000
set_option maxHeartbeats 1000000
namespace Go.Proofs.Ytlifhoajamnehaa
open Go Go.RowKit Instr
theorem eqIntA2S_big (B C n : Nat) (g : Nat → Int) (v u : Value) (w : World) (hn : n < 2000000) (h : w.ownsRow B 33 2 v n (Gl (n * 2) g)) (k : w.ownsRow C 33 2 u n (Gl (n * 2) g)) :
    Calls Try.prog 63 #[v, u] w fun e w' => e = .returned (.bool true) ∧ Ext w w' := by
  obtain ⟨ao, cap, rfl, ha⟩ := own_shape h
  obtain ⟨bo, cup, rfl, hb⟩ := own_shape k
  by_cases h0 : n = 0
  · subst h0
    clear h k ha hb
    go_enter Try.func63, Try.ntmps63
    go_wp2
    go_loopw [5] (fun i wr => i = .int .i64 0 ∧ Ext w wr) (fun _ _ => 0)
    case atStart => exact ⟨rfl, (by (repeat' (first | (with_reducible exact Ext.refl _) | (with_reducible assumption) | (with_reducible refine Ext.alloc ?_ _) | (with_reducible refine Ext.drew ?_) | (with_reducible refine Ext.drewN ?_ _) | (with_reducible refine Ext.setCell ?_ ?_ _) | (with_reducible refine Ext.trans ?_ (by assumption)))) <;> (first | (with_reducible assumption) | omega | (simp; done) | (simp; omega)))⟩
    case round =>
      obtain ⟨rfl, hx⟩ := hrel
      go_wp2
      go_returns
      exact ⟨rfl, (by (repeat' (first | (with_reducible exact Ext.refl _) | (with_reducible assumption) | (with_reducible refine Ext.alloc ?_ _) | (with_reducible refine Ext.drew ?_) | (with_reducible refine Ext.drewN ?_ _) | (with_reducible refine Ext.setCell ?_ ?_ _) | (with_reducible refine Ext.trans ?_ (by assumption)))) <;> (first | (with_reducible assumption) | omega | (simp; done) | (simp; omega)))⟩
  · obtain ⟨a, rfl, _, ha⟩ := ha (by omega)
    obtain ⟨b, rfl, _, hb⟩ := hb (by omega)
    have H := Lib.hid h
    have K := Lib.hid k
    clear h k
    skip
    go_enter Try.func63, Try.ntmps63
    go_wp2
    go_loopw [5] (fun i wr => ∃ j : Nat, j ≤ n ∧ i = .int .i64 j ∧ Ext w wr) (fun i _ => n - (intOf i).toNat)
    case atStart => exact ⟨0, Nat.zero_le _, rfl, (by (repeat' (first | (with_reducible exact Ext.refl _) | (with_reducible assumption) | (with_reducible refine Ext.alloc ?_ _) | (with_reducible refine Ext.drew ?_) | (with_reducible refine Ext.drewN ?_ _) | (with_reducible refine Ext.setCell ?_ ?_ _) | (with_reducible refine Ext.trans ?_ (by assumption)))) <;> (first | (with_reducible assumption) | omega | (simp; done) | (simp; omega)))⟩
    case round =>
      obtain ⟨j, hj, rfl, hx⟩ := hrel
      obtain ⟨wo, rfl⟩ : ∃ wo : World, wo = wr := ⟨_, rfl⟩
      by_cases hlt : j < n
      · have hs := hx.size
        have c1 := ((own_ext H.out hx).cellAt (j * 2) (by omega)).trans (Gl_get (by omega))
        have c2 := ((own_ext H.out hx).cellAt (j * 2 + 1) (by omega)).trans (Gl_get (by omega))
        have d1 := ((own_ext K.out hx).cellAt (j * 2) (by omega)).trans (Gl_get (by omega))
        have d2 := ((own_ext K.out hx).cellAt (j * 2 + 1) (by omega)).trans (Gl_get (by omega))
        have za : a < wo.heap.size := by omega
        have zb : b < wo.heap.size := by omega
        go_wp2
        refine wp_calm0 (by kernel_rfl) (by kernel_rfl) ?_; intro hgr; (refine walkQ_step (fun K hK => ?_); go_simp; (try (go_ints; try go_simp)); first | (refine hK _ ?_; clear hK K) | (apply Exists.intro; refine ⟨fun _ => ?_, hK _ ?_⟩; ((go_at_call 130; exact (eqIntA2_same _ _ _))); clear hK K) | (simp only [↓IntWalk.iteOmega]; (try go_simp); (try (go_ints; try go_simp)); first | (refine hK _ ?_; clear hK K) | (apply Exists.intro; refine ⟨fun _ => ?_, hK _ ?_⟩; ((go_at_call 130; exact (eqIntA2_same _ _ _))); clear hK K))); (refine walkQ_step (fun K hK => ?_); go_simp; (try (go_ints; try go_simp)); first | (refine hK _ ?_; clear hK K) | (apply Exists.intro; refine ⟨fun _ => ?_, hK _ ?_⟩; ((go_at_call 130; exact (eqIntA2_same _ _ _))); clear hK K) | (simp only [↓IntWalk.iteOmega]; (try go_simp); (try (go_ints; try go_simp)); first | (refine hK _ ?_; clear hK K) | (apply Exists.intro; refine ⟨fun _ => ?_, hK _ ?_⟩; ((go_at_call 130; exact (eqIntA2_same _ _ _))); clear hK K))); (refine walkQ_step (fun K hK => ?_); go_simp; (try (go_ints; try go_simp)); first | (refine hK _ ?_; clear hK K) | (apply Exists.intro; refine ⟨fun _ => ?_, hK _ ?_⟩; ((go_at_call 130; exact (eqIntA2_same _ _ _))); clear hK K) | (simp only [↓IntWalk.iteOmega]; (try go_simp); (try (go_ints; try go_simp)); first | (refine hK _ ?_; clear hK K) | (apply Exists.intro; refine ⟨fun _ => ?_, hK _ ?_⟩; ((go_at_call 130; exact (eqIntA2_same _ _ _))); clear hK K))); (refine walkQ_step (fun K hK => ?_); go_simp; (try (go_ints; try go_simp)); first | (refine hK _ ?_; clear hK K) | (apply Exists.intro; refine ⟨fun _ => ?_, hK _ ?_⟩; ((go_at_call 130; exact (eqIntA2_same _ _ _))); clear hK K) | (simp only [↓IntWalk.iteOmega]; (try go_simp); (try (go_ints; try go_simp)); first | (refine hK _ ?_; clear hK K) | (apply Exists.intro; refine ⟨fun _ => ?_, hK _ ?_⟩; ((go_at_call 130; exact (eqIntA2_same _ _ _))); clear hK K))); (refine walkQ_step (fun K hK => ?_); go_simp; (try (go_ints; try go_simp)); first | (refine hK _ ?_; clear hK K) | (apply Exists.intro; refine ⟨fun _ => ?_, hK _ ?_⟩; ((go_at_call 130; exact (eqIntA2_same _ _ _))); clear hK K) | (simp only [↓IntWalk.iteOmega]; (try go_simp); (try (go_ints; try go_simp)); first | (refine hK _ ?_; clear hK K) | (apply Exists.intro; refine ⟨fun _ => ?_, hK _ ?_⟩; ((go_at_call 130; exact (eqIntA2_same _ _ _))); clear hK K))); (refine walkQ_step (fun K hK => ?_); go_simp; (try (go_ints; try go_simp)); first | (refine hK _ ?_; clear hK K) | (apply Exists.intro; refine ⟨fun _ => ?_, hK _ ?_⟩; ((go_at_call 130; exact (eqIntA2_same _ _ _))); clear hK K) | (simp only [↓IntWalk.iteOmega]; (try go_simp); (try (go_ints; try go_simp)); first | (refine hK _ ?_; clear hK K) | (apply Exists.intro; refine ⟨fun _ => ?_, hK _ ?_⟩; ((go_at_call 130; exact (eqIntA2_same _ _ _))); clear hK K))); (refine walkQ_step (fun K hK => ?_); go_simp; (try (go_ints; try go_simp)); first | (refine hK _ ?_; clear hK K) | (apply Exists.intro; refine ⟨fun _ => ?_, hK _ ?_⟩; ((go_at_call 130; exact (eqIntA2_same _ _ _))); clear hK K) | (simp only [↓IntWalk.iteOmega]; (try go_simp); (try (go_ints; try go_simp)); first | (refine hK _ ?_; clear hK K) | (apply Exists.intro; refine ⟨fun _ => ?_, hK _ ?_⟩; ((go_at_call 130; exact (eqIntA2_same _ _ _))); clear hK K))); (refine walkQ_step (fun K hK => ?_); go_simp; (try (go_ints; try go_simp)); first | (refine hK _ ?_; clear hK K) | (apply Exists.intro; refine ⟨fun _ => ?_, hK _ ?_⟩; ((go_at_call 130; exact (eqIntA2_same _ _ _))); clear hK K) | (simp only [↓IntWalk.iteOmega]; (try go_simp); (try (go_ints; try go_simp)); first | (refine hK _ ?_; clear hK K) | (apply Exists.intro; refine ⟨fun _ => ?_, hK _ ?_⟩; ((go_at_call 130; exact (eqIntA2_same _ _ _))); clear hK K))); (refine walkQ_step (fun K hK => ?_); go_simp; (try (go_ints; try go_simp)); first | (refine hK _ ?_; clear hK K) | (apply Exists.intro; refine ⟨fun _ => ?_, hK _ ?_⟩; ((go_at_call 130; exact (eqIntA2_same _ _ _))); clear hK K) | (simp only [↓IntWalk.iteOmega]; (try go_simp); (try (go_ints; try go_simp)); first | (refine hK _ ?_; clear hK K) | (apply Exists.intro; refine ⟨fun _ => ?_, hK _ ?_⟩; ((go_at_call 130; exact (eqIntA2_same _ _ _))); clear hK K))); (refine walkQ_step (fun K hK => ?_); go_simp; (try (go_ints; try go_simp)); first | (refine hK _ ?_; clear hK K) | (apply Exists.intro; refine ⟨fun _ => ?_, hK _ ?_⟩; ((go_at_call 130; exact (eqIntA2_same _ _ _))); clear hK K) | (simp only [↓IntWalk.iteOmega]; (try go_simp); (try (go_ints; try go_simp)); first | (refine hK _ ?_; clear hK K) | (apply Exists.intro; refine ⟨fun _ => ?_, hK _ ?_⟩; ((go_at_call 130; exact (eqIntA2_same _ _ _))); clear hK K))); refine walkQ_nil ?_; clear hgr; intro w1 hE; have hc2 := hE.cells; have hf2 := hE.frees; have hz2 := hE.size
        replace hE : Ext wo w1 := ((Ext.refl wo).drew).trans hE
        go_wp2
        refine ⟨⟨j + 1, by omega, by go_num, (by (repeat' (first | (with_reducible exact Ext.refl _) | (with_reducible assumption) | (with_reducible refine Ext.alloc ?_ _) | (with_reducible refine Ext.drew ?_) | (with_reducible refine Ext.drewN ?_ _) | (with_reducible refine Ext.setCell ?_ ?_ _) | (with_reducible refine Ext.trans ?_ (by assumption)))) <;> (first | (with_reducible assumption) | omega | (simp; done) | (simp; omega)))⟩, by simp [intOf]; omega⟩
      · obtain rfl : j = n := by omega
        go_wp2
        go_returns
        exact ⟨rfl, (by (repeat' (first | (with_reducible exact Ext.refl _) | (with_reducible assumption) | (with_reducible refine Ext.alloc ?_ _) | (with_reducible refine Ext.drew ?_) | (with_reducible refine Ext.drewN ?_ _) | (with_reducible refine Ext.setCell ?_ ?_ _) | (with_reducible refine Ext.trans ?_ (by assumption)))) <;> (first | (with_reducible assumption) | omega | (simp; done) | (simp; omega)))⟩
theorem eqIntA2S_same (B C n : Nat) (g : Nat → Int) (v u : Value) (w : World) (hn : n < 1000) (h : w.ownsRow B 33 2 v n (Gl (n * 2) g)) (k : w.ownsRow C 33 2 u n (Gl (n * 2) g)) :
    Calls Try.prog 63 #[v, u] w fun e w' => e = .returned (.bool true) ∧ Ext w w' := eqIntA2S_big B C n g v u w (by omega) h k
theorem markIntA2S_own (B n k : Nat) (g : Nat → Int) (v : Value) (w : World) (hn : n < 1000) (hk : k < 1000) (h : w.ownsRow B 33 2 v n (Gl (n * 2) g)) :
    Calls Try.prog 64 #[v, .int .i64 (k : Int)] w fun e w' => e = .returned (.int .i64 ((k + n * 2 : Nat) : Int)) ∧ Below B w w' ∧ w'.ownsRow B 33 2 v n (Gl (n * 2) (fun i => ((k + i : Nat) : Int))) := by
  obtain ⟨ao, cap, rfl, ha⟩ := own_shape h
  rw [mk_0 (n * 2) k g] at h
  rw [← mk_all (n * 2) k g]
  have H := Lib.hid h
  clear h
  by_cases h0 : n = 0
  · subst h0
    clear ha
    go_enter Try.func64, Try.ntmps64
    go_wp2
    go_loopw [1, 5] (fun m i wr => m = .int .i64 (k : Int) ∧ i = .int .i64 0 ∧ wr = w) (fun _ _ _ => 0)
    case atStart => exact ⟨rfl, rfl, rfl⟩
    case round =>
      obtain ⟨rfl, rfl, rfl⟩ := hrel
      go_wp2
      go_returns
      exact ⟨by go_num, Below.refl _ _, H.out⟩
  · obtain ⟨a, rfl, hB, ha⟩ := ha (by omega)
    go_enter Try.func64, Try.ntmps64
    go_wp2
    go_loopw [1, 5] (fun m i wr => ∃ j : Nat, j ≤ n ∧ i = .int .i64 j ∧ m = .int .i64 ((k + j * 2 : Nat) : Int) ∧ Below B w wr ∧ wr.ownsRow B 33 2 (.slice (some ⟨a, 0, none⟩) n cap) n (Gl (n * 2) (mk' k (j * 2) g))) (fun _ i _ => n - (intOf i).toNat)
    case atStart => exact ⟨0, Nat.zero_le _, rfl, rfl, Below.refl _ _, H.out⟩
    case round =>
      obtain ⟨j, hj, rfl, rfl, hx, ho⟩ := hrel
      obtain ⟨wo, rfl⟩ : ∃ wo : World, wo = wr := ⟨_, rfl⟩
      have HO := Lib.hid ho
      clear ho
      by_cases hlt : j < n
      · go_wp2
        go_loopw [1, 6] (fun m i wr => ∃ c : Nat, c ≤ 2 ∧ i = .int .i64 c ∧ m = .int .i64 ((k + (j * 2 + c) : Nat) : Int) ∧ Below B w wr ∧ wr.ownsRow B 33 2 (.slice (some ⟨a, 0, none⟩) n cap) n (Gl (n * 2) (mk' k (j * 2 + c) g))) (fun _ i _ => 2 - (intOf i).toNat)
        case atStart => exact ⟨0, Nat.zero_le _, rfl, rfl, hx, HO.out⟩
        case round =>
          obtain ⟨c, hc, rfl, rfl, hx, ho⟩ := hrel
          obtain ⟨wi, rfl⟩ : ∃ wi : World, wi = wr := ⟨_, rfl⟩
          clear HO
          have HO := Lib.hid ho
          clear ho
          by_cases hlc : c < 2
          · have c1 := (HO.out.cellAt (j * 2 + c) (by omega)).trans (Gl_get (by omega))
            have f1 := HO.out.frozenAt (j * 2 + c)
            go_wp2
            refine ⟨⟨c + 1, by omega, by go_num, by go_num, hx.setCell hB _, ?_⟩, by simp [intOf]; omega⟩
            have := (HO.out.stored (j * 2 + c) (.int .i64 ((k : Int) + ((j * 2 + c : Nat) : Int)))).1
            rw [Gl_set, mk_step] at this
            rw [show j * 2 + (c + 1) = j * 2 + c + 1 from rfl]
            simpa using this
          · obtain rfl : c = 2 := by omega
            go_wp2
            (first | exact ⟨⟨j + 1, by omega, by go_num, by go_num, hx, by have := HO.out; rwa [show j * 2 + 2 = (j + 1) * 2 by omega] at this⟩, by simp [intOf]; omega⟩ | (refine ⟨?_, by simp [intOf]; omega⟩; (repeat apply Exists.intro); exact ⟨⟨j + 1, by omega, by go_num, by go_num, hx, by have := HO.out; rwa [show j * 2 + 2 = (j + 1) * 2 by omega] at this⟩, rfl⟩))
      · obtain rfl : j = n := by omega
        go_wp2
        go_returns
        exact ⟨by go_num, hx, HO.out⟩
theorem heldIntA2S_own (B n k : Nat) (v : Value) (w : World) (hn : n < 1000) (hk : k < 1000) (h : w.ownsRow B 33 2 v n (Gl (n * 2) (fun i => ((k + i : Nat) : Int)))) :
    Calls Try.prog 65 #[v, .int .i64 (k : Int)] w fun e w' => e = .returned (.int .i64 ((k + n * 2 : Nat) : Int)) ∧ Ext w w' := by
  obtain ⟨ao, cap, rfl, ha⟩ := own_shape h
  have H := Lib.hid h
  clear h
  by_cases h0 : n = 0
  · subst h0
    clear ha
    go_enter Try.func65, Try.ntmps65
    go_wp2
    go_loopw [1, 5] (fun m i wr => m = .int .i64 (k : Int) ∧ i = .int .i64 0 ∧ wr = w) (fun _ _ _ => 0)
    case atStart => exact ⟨rfl, rfl, rfl⟩
    case round =>
      obtain ⟨rfl, rfl, rfl⟩ := hrel
      go_wp2
      go_returns
      exact ⟨by go_num, (by (repeat' (first | (with_reducible exact Ext.refl _) | (with_reducible assumption) | (with_reducible refine Ext.alloc ?_ _) | (with_reducible refine Ext.drew ?_) | (with_reducible refine Ext.drewN ?_ _) | (with_reducible refine Ext.setCell ?_ ?_ _) | (with_reducible refine Ext.trans ?_ (by assumption)))) <;> (first | (with_reducible assumption) | omega | (simp; done) | (simp; omega)))⟩
  · obtain ⟨a, rfl, hB, ha⟩ := ha (by omega)
    go_enter Try.func65, Try.ntmps65
    go_wp2
    go_loopw [1, 5] (fun m i wr => ∃ j : Nat, j ≤ n ∧ i = .int .i64 j ∧ m = .int .i64 ((k + j * 2 : Nat) : Int) ∧ Ext w wr) (fun _ i _ => n - (intOf i).toNat)
    case atStart => exact ⟨0, Nat.zero_le _, rfl, rfl, (by (repeat' (first | (with_reducible exact Ext.refl _) | (with_reducible assumption) | (with_reducible refine Ext.alloc ?_ _) | (with_reducible refine Ext.drew ?_) | (with_reducible refine Ext.drewN ?_ _) | (with_reducible refine Ext.setCell ?_ ?_ _) | (with_reducible refine Ext.trans ?_ (by assumption)))) <;> (first | (with_reducible assumption) | omega | (simp; done) | (simp; omega)))⟩
    case round =>
      obtain ⟨j, hj, rfl, rfl, hx⟩ := hrel
      obtain ⟨wo, rfl⟩ : ∃ wo : World, wo = wr := ⟨_, rfl⟩
      by_cases hlt : j < n
      · go_wp2
        go_loopw [1, 6] (fun m i wr => ∃ c : Nat, c ≤ 2 ∧ i = .int .i64 c ∧ m = .int .i64 ((k + (j * 2 + c) : Nat) : Int) ∧ Ext w wr) (fun _ i _ => 2 - (intOf i).toNat)
        case atStart => exact ⟨0, Nat.zero_le _, rfl, rfl, (by (repeat' (first | (with_reducible exact Ext.refl _) | (with_reducible assumption) | (with_reducible refine Ext.alloc ?_ _) | (with_reducible refine Ext.drew ?_) | (with_reducible refine Ext.drewN ?_ _) | (with_reducible refine Ext.setCell ?_ ?_ _) | (with_reducible refine Ext.trans ?_ (by assumption)))) <;> (first | (with_reducible assumption) | omega | (simp; done) | (simp; omega)))⟩
        case round =>
          obtain ⟨c, hc, rfl, rfl, hx⟩ := hrel
          obtain ⟨wi, rfl⟩ : ∃ wi : World, wi = wr := ⟨_, rfl⟩
          by_cases hlc : c < 2
          · have c1 := ((own_ext H.out hx).cellAt (j * 2 + c) (by omega)).trans (Gl_get (by omega))
            go_wp2
            (first | exact ⟨⟨c + 1, by omega, by go_num, by go_num, (by (repeat' (first | (with_reducible exact Ext.refl _) | (with_reducible assumption) | (with_reducible refine Ext.alloc ?_ _) | (with_reducible refine Ext.drew ?_) | (with_reducible refine Ext.drewN ?_ _) | (with_reducible refine Ext.setCell ?_ ?_ _) | (with_reducible refine Ext.trans ?_ (by assumption)))) <;> (first | (with_reducible assumption) | omega | (simp; done) | (simp; omega)))⟩, by simp [intOf]; omega⟩ | (refine ⟨?_, by simp [intOf]; omega⟩; (repeat apply Exists.intro); exact ⟨⟨c + 1, by omega, by go_num, by go_num, (by (repeat' (first | (with_reducible exact Ext.refl _) | (with_reducible assumption) | (with_reducible refine Ext.alloc ?_ _) | (with_reducible refine Ext.drew ?_) | (with_reducible refine Ext.drewN ?_ _) | (with_reducible refine Ext.setCell ?_ ?_ _) | (with_reducible refine Ext.trans ?_ (by assumption)))) <;> (first | (with_reducible assumption) | omega | (simp; done) | (simp; omega)))⟩, rfl⟩))
          · obtain rfl : c = 2 := by omega
            go_wp2
            (first | exact ⟨⟨j + 1, by omega, by go_num, by go_num, (by (repeat' (first | (with_reducible exact Ext.refl _) | (with_reducible assumption) | (with_reducible refine Ext.alloc ?_ _) | (with_reducible refine Ext.drew ?_) | (with_reducible refine Ext.drewN ?_ _) | (with_reducible refine Ext.setCell ?_ ?_ _) | (with_reducible refine Ext.trans ?_ (by assumption)))) <;> (first | (with_reducible assumption) | omega | (simp; done) | (simp; omega)))⟩, by simp [intOf]; omega⟩ | (refine ⟨?_, by simp [intOf]; omega⟩; (repeat apply Exists.intro); exact ⟨⟨j + 1, by omega, by go_num, by go_num, (by (repeat' (first | (with_reducible exact Ext.refl _) | (with_reducible assumption) | (with_reducible refine Ext.alloc ?_ _) | (with_reducible refine Ext.drew ?_) | (with_reducible refine Ext.drewN ?_ _) | (with_reducible refine Ext.setCell ?_ ?_ _) | (with_reducible refine Ext.trans ?_ (by assumption)))) <;> (first | (with_reducible assumption) | omega | (simp; done) | (simp; omega)))⟩, rfl⟩))
      · obtain rfl : j = n := by omega
        go_wp2
        go_returns
        exact ⟨by go_num, (by (repeat' (first | (with_reducible exact Ext.refl _) | (with_reducible assumption) | (with_reducible refine Ext.alloc ?_ _) | (with_reducible refine Ext.drew ?_) | (with_reducible refine Ext.drewN ?_ _) | (with_reducible refine Ext.setCell ?_ ?_ _) | (with_reducible refine Ext.trans ?_ (by assumption)))) <;> (first | (with_reducible assumption) | omega | (simp; done) | (simp; omega)))⟩
theorem fl_Gl (p : Nat → Bool) (k : Nat) : ∃ g, (fl p k).map (fun d : Nat => Value.int .i64 (d : Int)) = Gl (fl p k).length g := by
  obtain ⟨g, hg⟩ := Gl_of (xs := (fl p k).map (fun d : Nat => Value.int .i64 (d : Int))) (fun u hu => by
    obtain ⟨d, _, rfl⟩ := List.mem_map.1 hu
    exact ⟨_, rfl⟩)
  exact ⟨g, by rw [List.length_map] at hg; exact hg⟩
theorem nil_Gl (g : Nat → Int) : [] = Gl 0 g := rfl
/-- marks are laid into a row of the call's own: what was there when C blocks were stays -/
theorem ext_below {a t w' : World} {C : Nat} (hx : Ext a t) (hb : Below C t w') (hC : a.heap.size ≤ C) : Ext a w' := .of (hx.below.trans (hb.mono hC))
theorem markIntA2S_1 (B n : Nat) (g : Nat → Int) (v : Value) (w : World) (hn : n < 1000) (h : w.ownsRow B 33 2 v n (Gl (n * 2) g)) :
    Calls Try.prog 64 #[v, .int .i64 1] w fun e w' => e = .returned (.int .i64 ((1 + n * 2 : Nat) : Int)) ∧ Below B w w' ∧ w'.ownsRow B 33 2 v n (Gl (n * 2) (fun i => ((1 + i : Nat) : Int))) := markIntA2S_own B n 1 g v w hn (by omega) h
theorem heldIntA2S_1 (B n : Nat) (v : Value) (w : World) (hn : n < 1000) (h : w.ownsRow B 33 2 v n (Gl (n * 2) (fun i => ((1 + i : Nat) : Int)))) :
    Calls Try.prog 65 #[v, .int .i64 1] w fun e w' => e = .returned (.int .i64 ((1 + n * 2 : Nat) : Int)) ∧ Ext w w' := heldIntA2S_own B n 1 v w hn (by omega) h
end Go.Proofs.Ytlifhoajamnehaa
set_option linter.unusedVariables false
set_option linter.unusedSimpArgs false
set_option maxRecDepth 100000
set_option maxHeartbeats 1000000
namespace Go.Proofs.Ytlifhoajamnehaa
open Go Go.RowKit Instr
theorem list_n (n : Nat) (hn : n < 68719476736) (w : World) : Calls Try.prog 150 #[.int .u64 (n : Int)] w fun e w' => ∃ v, e = .returned v ∧ Ext w w' ∧ w'.ownsRow w.heap.size 3 1 v (fl n.testBit 36).length (ints (fl n.testBit 36)) := by
  obtain ⟨i0, hi, iz0, iz1, iz2⟩ := info_parts info_int
  skip
  go_enter Try.func150, Try.ntmps150
  go_wp2
  go_loopw [3, 6] (fun v i wr => ∃ k : Nat, k ≤ 36 ∧ i = .int .i64 k ∧ Ext w wr ∧ w.heap.size < wr.heap.size ∧ wr.ownsRow w.heap.size 3 1 v (fl n.testBit k).length (ints (fl n.testBit k))) (fun _ i _ => 36 - (intOf i).toNat)
  case atStart => exact ⟨0, Nat.zero_le _, rfl, (by (repeat' (first | (with_reducible exact Ext.refl _) | (with_reducible assumption) | (with_reducible refine Ext.alloc ?_ _) | (with_reducible refine Ext.drew ?_) | (with_reducible refine Ext.drewN ?_ _) | (with_reducible refine Ext.setCell ?_ ?_ _) | (with_reducible refine Ext.trans ?_ (by assumption)))) <;> (first | (with_reducible assumption) | omega | (simp; done) | (simp; omega))), by simp, own_empty _ 3 1 _ (by simp) (by simp)⟩
  case round =>
    obtain ⟨k, hk, rfl, hx, hz, ho⟩ := hrel
    obtain ⟨wo, rfl⟩ : ∃ wo : World, wo = wr := ⟨_, rfl⟩
    have HO := Lib.hid ho
    clear ho
    by_cases hlt : k < 36
    · have hle := fl_le n.testBit k
      have HH := Lib.hid (fun w => has_any n k hn hlt w)
      cases hp : n.testBit k
      · rw [hp] at HH
        have e := fl_miss hp
        rw [← e] at HO
        clear hp e
        go_wp2_with (go_at_call 157; refine (HH.out _).mono ?_; rintro e w' ⟨rfl, rfl⟩)
        refine ⟨⟨k + 1, by omega, by go_num, hx, hz, HO.out⟩, by simp [intOf]; omega⟩
      · rw [hp] at HH
        have e := Lib.hid (fl_hit hp)
        clear hp
        go_wp2_with (first | (go_at_call 157; refine (HH.out _).mono ?_; rintro e w' ⟨rfl, rfl⟩) | (at_builtin; refine wpList_append_own _ rfl _ _ 44 rfl w.heap.size 3 i0 (.int .i64 0) 1 8 Try.underlying44 hi iz0 iz1 iz2 rfl (by decide) _ _ _ rfl (HO.out.alloc _) ⟨_, 0, none⟩ 1 1 [.int .i64 (k : Int)] rfl rfl one_cell (by simp [Value.oneCell']) (by unfold maxLen; omega) (by omega) (by simp; omega) ?_; intro v1 w2 hown hgrow _))
        have HP := Lib.hid (own_push hx (Nat.le_refl _) HO.out hgrow)
        have hs2 := hgrow.size
        refine ⟨⟨k + 1, by omega, by go_num, HP.out.1, by simp at hs2; omega, ?_⟩, by simp [intOf]; omega⟩
        rw [e.out, List.length_append, ints_append]
        exact hown
    · obtain rfl : k = 36 := by omega
      go_wp2
      go_returns
      exact ⟨_, rfl, (by (repeat' (first | (with_reducible exact Ext.refl _) | (with_reducible assumption) | (with_reducible refine Ext.alloc ?_ _) | (with_reducible refine Ext.drew ?_) | (with_reducible refine Ext.drewN ?_ _) | (with_reducible refine Ext.setCell ?_ ?_ _) | (with_reducible refine Ext.trans ?_ (by assumption)))) <;> (first | (with_reducible assumption) | omega | (simp; done) | (simp; omega))), HO.out⟩
/-- a set, spread by a stamp -/
def spr (n m : Nat) : Nat := inkL n (fl m.testBit 36)
theorem pxy_take : ∀ (L : List Nat) (j : Nat), pxy (L.take j) = (pxy L).take (j * 2)
  | [], j => by rw [List.take_nil]; show pxy [] = List.take _ []; rw [List.take_nil]; rfl
  | k :: L, 0 => by simp [pxy]
  | k :: L, j + 1 => by
    rw [List.take_succ_cons]
    have h := pxy_take L j
    show _ :: _ :: pxy (L.take j) = List.take ((j + 1) * 2) (_ :: _ :: pxy L)
    rw [h, show (j + 1) * 2 = j * 2 + 1 + 1 by omega, List.take_succ_cons, List.take_succ_cons]
theorem pxy_drop : ∀ (L : List Nat) (j : Nat), pxy (L.drop j) = (pxy L).drop (j * 2)
  | [], j => by rw [List.drop_nil]; show pxy [] = List.drop _ []; rw [List.drop_nil]; rfl
  | k :: L, 0 => by simp
  | k :: L, j + 1 => by
    rw [List.drop_succ_cons]
    have h := pxy_drop L j
    show pxy (L.drop j) = List.drop ((j + 1) * 2) (_ :: _ :: pxy L)
    rw [h, show (j + 1) * 2 = j * 2 + 1 + 1 by omega, List.drop_succ_cons, List.drop_succ_cons]
theorem pxy_ones (L : List Nat) : ∀ u ∈ pxy L, u.oneCell' = true := by
  intro u hu
  unfold pxy at hu
  obtain ⟨k, _, hk⟩ := List.mem_flatMap.1 hu
  simp at hk
  rcases hk with rfl | rfl <;> rfl
theorem cellOf_any (k : Nat) (hk : k < 36) (w : World) : Calls Try.prog 108 #[.int .i64 (k : Int)] w fun e w' => e = .returned (.agg #[.int .i64 (((k % 6 : Nat) : Int)), .int .i64 (((k / 6 : Nat) : Int))]) ∧ Ext w w' := by
  go_enter Try.func108, Try.ntmps108
  go_wp2
  exact bodyPost_ret (ret_cell rfl rfl (load_two (Arr2.new w (fun j => if j = 1 then ((k / 6 : Nat) : Int) else ((k % 6 : Nat) : Int)) 33 rfl))) rfl ⟨rfl, (by (repeat' (first | (with_reducible exact Ext.refl _) | (with_reducible assumption) | (with_reducible refine Ext.alloc ?_ _) | (with_reducible refine Ext.drew ?_) | (with_reducible refine Ext.drewN ?_ _) | (with_reducible refine Ext.setCell ?_ ?_ _) | (with_reducible refine Ext.trans ?_ (by assumption)))) <;> (first | (with_reducible assumption) | omega | (simp; done) | (simp; omega)))⟩
theorem cellsOf_n (L : List Nat) (hG : ∀ (i k : Nat), L[i]? = some k → k < 36) (hlen : L.length < 2000000) (B : Nat) (v : Value) (w : World) (ho : w.ownsRow B 3 1 v L.length (ints L)) :
    Calls Try.prog 129 #[v] w fun e w' => ∃ u, e = .returned u ∧ Ext w w' ∧ w'.ownsRow w.heap.size 33 2 u L.length (pxy L) := by
  obtain ⟨i0, hi, iz0, iz1, iz2⟩ := info_parts info_two
  obtain ⟨ao, cap, rfl, hsh⟩ := own_shape ho
  have HI := Lib.hid ho
  have HG := Lib.hid hG
  clear ho hG
  go_enter Try.func129, Try.ntmps129
  go_wp2
  go_loopw [3, 9] (fun u i wr => ∃ j : Nat, j ≤ L.length ∧ i = .int .i64 j ∧ Ext w wr ∧ w.heap.size < wr.heap.size ∧ wr.ownsRow w.heap.size 33 2 u j (pxy (L.take j))) (fun _ i _ => L.length - (intOf i).toNat)
  case atStart => exact ⟨0, Nat.zero_le _, rfl, (by (repeat' (first | (with_reducible exact Ext.refl _) | (with_reducible assumption) | (with_reducible refine Ext.alloc ?_ _) | (with_reducible refine Ext.drew ?_) | (with_reducible refine Ext.drewN ?_ _) | (with_reducible refine Ext.setCell ?_ ?_ _) | (with_reducible refine Ext.trans ?_ (by assumption)))) <;> (first | (with_reducible assumption) | omega | (simp; done) | (simp; omega))), by simp, own_empty _ 33 2 _ (by simp) (by simp)⟩
  case round =>
    obtain ⟨j, hj, rfl, hx, hz, ho⟩ := hrel
    obtain ⟨wo, rfl⟩ : ∃ wo : World, wo = wr := ⟨_, rfl⟩
    have HO := Lib.hid ho
    clear ho
    by_cases hlt : j < L.length
    · obtain ⟨b, rfl, _, hb⟩ := hsh (by omega)
      obtain ⟨k, hk⟩ : ∃ k, L[j]? = some k := ⟨L[j], List.getElem?_eq_getElem hlt⟩
      have hk36 := HG.out j k hk
      have c1 := ((own_ext HI.out hx).cellAt j (by omega)).trans (ints_get L j k hk)
      have HC := Lib.hid (fun w => cellOf_any k hk36 w)
      have HS := Lib.hid (show pxy (L.take (j + 1)) = pxy (L.take j) ++ [.int .i64 ((k % 6 : Nat) : Int), .int .i64 ((k / 6 : Nat) : Int)] by rw [List.take_add_one, hk, pxy_append]; rfl)
      clear hk
      go_wp2_with (first | ((go_at_call 108; refine (HC.out _).mono ?_; rintro e w1 ⟨rfl, hE⟩); have HO1 := Lib.hid (own_ext HO.out hE); have hs := hE.size) | (at_builtin; refine wpList_append_own _ rfl _ _ 28 rfl w.heap.size 33 i0 (.agg #[.int .i64 0, .int .i64 0]) 2 16 Try.underlying28 hi iz0 iz1 iz2 rfl (by decide) _ _ _ rfl (HO1.out.alloc _) ⟨_, 0, none⟩ 1 1 [.int .i64 ((k % 6 : Nat) : Int), .int .i64 ((k / 6 : Nat) : Int)] rfl rfl two_cells (by simp [Value.oneCell']) (by unfold maxLen; omega) (by omega) (by simp; omega) ?_; intro v1 w2 hown hgrow _))
      have HP := Lib.hid (own_push (hx.trans hE) (Nat.le_refl _) HO1.out hgrow)
      have hs2 := hgrow.size
      refine ⟨⟨j + 1, by omega, by go_num, HP.out.1, by simp at hs2; omega, ?_⟩, by simp [intOf]; omega⟩
      rw [HS.out]
      exact hown
    · obtain rfl : j = L.length := by omega
      rw [List.take_length] at HO
      go_wp2
      go_returns
      exact ⟨_, rfl, (by (repeat' (first | (with_reducible exact Ext.refl _) | (with_reducible assumption) | (with_reducible refine Ext.alloc ?_ _) | (with_reducible refine Ext.drew ?_) | (with_reducible refine Ext.drewN ?_ _) | (with_reducible refine Ext.setCell ?_ ?_ _) | (with_reducible refine Ext.trans ?_ (by assumption)))) <;> (first | (with_reducible assumption) | omega | (simp; done) | (simp; omega))), HO.out⟩
end Go.Proofs.Ytlifhoajamnehaa
set_option linter.unusedVariables false
set_option linter.unusedSimpArgs false
set_option maxRecDepth 100000
set_option maxHeartbeats 1000000
namespace Go.Proofs.Ytlifhoajamnehaa
open Go Go.RowKit Instr
theorem part_iff (z n : Nat) (hz : z < 68719476736) : z &&& n = z ↔ z &&& cmp n = 0 := by
  constructor
  · intro h
    refine ext36 (and36 _ hz) (by omega) fun k hk => ?_
    have := congrArg (fun t => t.testBit k) h
    simp only [Nat.testBit_and] at this
    rw [Nat.testBit_and, testBit_cmp n k hk, Nat.zero_testBit]
    cases h1 : n.testBit k <;> cases h2 : z.testBit k <;> rw [h1, h2] at this <;> first | rfl | cases this
  · intro h
    refine ext36 (and36 _ hz) hz fun k hk => ?_
    have := congrArg (fun t => t.testBit k) h
    simp only [Nat.testBit_and, testBit_cmp n k hk, Nat.zero_testBit] at this
    rw [Nat.testBit_and]
    cases h1 : n.testBit k <;> cases h2 : z.testBit k <;> rw [h1, h2] at this <;> first | rfl | cases this
theorem l2Part_n (a b : Nat) (ha : a < 68719476736) (c : Bool) (hc : decide (a &&& cmp b = 0) = c) (w : World) : Calls Try.prog 155 #[(.agg #[.int .i64 (rw a 0), .int .i64 (rw a 1), .int .i64 (rw a 2), .int .i64 (rw a 3), .int .i64 (rw a 4), .int .i64 (rw a 5)]), (.agg #[.int .i64 (rw b 0), .int .i64 (rw b 1), .int .i64 (rw b 2), .int .i64 (rw b 3), .int .i64 (rw b 4), .int .i64 (rw b 5)])] w fun e w' => e = .returned (.bool c) ∧ Ext w w' := by
  have H := Lib.hid (fun w => l2And_n a b w)
  have ez := eql_is (rw (a &&& b)) (rw a) c ((eqS_rw (and36 _ ha) ha).trans ((decide_eq_decide.2 (part_iff a b ha)).trans hc))
  clear hc
  skip
  go_enter Try.func155, Try.ntmps155
  go_wp2
  refine wp_calm0 (by kernel_rfl) (by kernel_rfl) ?_; intro hgr; (refine walkQ_step (fun K hK => ?_); go_simp; (try (go_ints; try go_simp)); first | (refine hK _ ?_; clear hK K) | (apply Exists.intro; refine ⟨fun _ => ?_, hK _ ?_⟩; ((go_at_call 109; exact (H.out _))); clear hK K) | (simp only [↓IntWalk.iteOmega]; (try go_simp); (try (go_ints; try go_simp)); first | (refine hK _ ?_; clear hK K) | (apply Exists.intro; refine ⟨fun _ => ?_, hK _ ?_⟩; ((go_at_call 109; exact (H.out _))); clear hK K))); (refine walkQ_step (fun K hK => ?_); go_simp; (try (go_ints; try go_simp)); first | (refine hK _ ?_; clear hK K) | (apply Exists.intro; refine ⟨fun _ => ?_, hK _ ?_⟩; ((go_at_call 109; exact (H.out _))); clear hK K) | (simp only [↓IntWalk.iteOmega]; (try go_simp); (try (go_ints; try go_simp)); first | (refine hK _ ?_; clear hK K) | (apply Exists.intro; refine ⟨fun _ => ?_, hK _ ?_⟩; ((go_at_call 109; exact (H.out _))); clear hK K))); (refine walkQ_step (fun K hK => ?_); go_simp; (try (go_ints; try go_simp)); first | (refine hK _ ?_; clear hK K) | (apply Exists.intro; refine ⟨fun _ => ?_, hK _ ?_⟩; ((go_at_call 109; exact (H.out _))); clear hK K) | (simp only [↓IntWalk.iteOmega]; (try go_simp); (try (go_ints; try go_simp)); first | (refine hK _ ?_; clear hK K) | (apply Exists.intro; refine ⟨fun _ => ?_, hK _ ?_⟩; ((go_at_call 109; exact (H.out _))); clear hK K))); (refine walkQ_step (fun K hK => ?_); go_simp; (try (go_ints; try go_simp)); first | (refine hK _ ?_; clear hK K) | (apply Exists.intro; refine ⟨fun _ => ?_, hK _ ?_⟩; ((go_at_call 109; exact (H.out _))); clear hK K) | (simp only [↓IntWalk.iteOmega]; (try go_simp); (try (go_ints; try go_simp)); first | (refine hK _ ?_; clear hK K) | (apply Exists.intro; refine ⟨fun _ => ?_, hK _ ?_⟩; ((go_at_call 109; exact (H.out _))); clear hK K))); (refine walkQ_step (fun K hK => ?_); go_simp; (try (go_ints; try go_simp)); first | (refine hK _ ?_; clear hK K) | (apply Exists.intro; refine ⟨fun _ => ?_, hK _ ?_⟩; ((go_at_call 109; exact (H.out _))); clear hK K) | (simp only [↓IntWalk.iteOmega]; (try go_simp); (try (go_ints; try go_simp)); first | (refine hK _ ?_; clear hK K) | (apply Exists.intro; refine ⟨fun _ => ?_, hK _ ?_⟩; ((go_at_call 109; exact (H.out _))); clear hK K))); (refine walkQ_step (fun K hK => ?_); go_simp; (try (go_ints; try go_simp)); first | (refine hK _ ?_; clear hK K) | (apply Exists.intro; refine ⟨fun _ => ?_, hK _ ?_⟩; ((go_at_call 109; exact (H.out _))); clear hK K) | (simp only [↓IntWalk.iteOmega]; (try go_simp); (try (go_ints; try go_simp)); first | (refine hK _ ?_; clear hK K) | (apply Exists.intro; refine ⟨fun _ => ?_, hK _ ?_⟩; ((go_at_call 109; exact (H.out _))); clear hK K))); refine walkQ_nil ?_; clear hgr; intro w1 hE; replace k0_0 : w1.cell? ⟨w.heap.size, 0, none⟩ = some (.int .i64 (rw a 0)) := (hE.cells _ _ (by first | exact l0 | (simp; done) | (simp; omega))).trans (by first | exact k0_0 | (go_simp; done)); replace k0_1 : w1.cell? ⟨w.heap.size, 1, none⟩ = some (.int .i64 (rw a 1)) := (hE.cells _ _ (by first | exact l0 | (simp; done) | (simp; omega))).trans (by first | exact k0_1 | (go_simp; done)); replace k0_2 : w1.cell? ⟨w.heap.size, 2, none⟩ = some (.int .i64 (rw a 2)) := (hE.cells _ _ (by first | exact l0 | (simp; done) | (simp; omega))).trans (by first | exact k0_2 | (go_simp; done)); replace k0_3 : w1.cell? ⟨w.heap.size, 3, none⟩ = some (.int .i64 (rw a 3)) := (hE.cells _ _ (by first | exact l0 | (simp; done) | (simp; omega))).trans (by first | exact k0_3 | (go_simp; done)); replace k0_4 : w1.cell? ⟨w.heap.size, 4, none⟩ = some (.int .i64 (rw a 4)) := (hE.cells _ _ (by first | exact l0 | (simp; done) | (simp; omega))).trans (by first | exact k0_4 | (go_simp; done)); replace k0_5 : w1.cell? ⟨w.heap.size, 5, none⟩ = some (.int .i64 (rw a 5)) := (hE.cells _ _ (by first | exact l0 | (simp; done) | (simp; omega))).trans (by first | exact k0_5 | (go_simp; done)); replace k1_0 : w1.cell? ⟨w.heap.size + 1, 0, none⟩ = some (.int .i64 (rw b 0)) := (hE.cells _ _ (by first | exact l1 | (simp; done) | (simp; omega))).trans (by first | exact k1_0 | (go_simp; done)); replace k1_1 : w1.cell? ⟨w.heap.size + 1, 1, none⟩ = some (.int .i64 (rw b 1)) := (hE.cells _ _ (by first | exact l1 | (simp; done) | (simp; omega))).trans (by first | exact k1_1 | (go_simp; done)); replace k1_2 : w1.cell? ⟨w.heap.size + 1, 2, none⟩ = some (.int .i64 (rw b 2)) := (hE.cells _ _ (by first | exact l1 | (simp; done) | (simp; omega))).trans (by first | exact k1_2 | (go_simp; done)); replace k1_3 : w1.cell? ⟨w.heap.size + 1, 3, none⟩ = some (.int .i64 (rw b 3)) := (hE.cells _ _ (by first | exact l1 | (simp; done) | (simp; omega))).trans (by first | exact k1_3 | (go_simp; done)); replace k1_4 : w1.cell? ⟨w.heap.size + 1, 4, none⟩ = some (.int .i64 (rw b 4)) := (hE.cells _ _ (by first | exact l1 | (simp; done) | (simp; omega))).trans (by first | exact k1_4 | (go_simp; done)); replace k1_5 : w1.cell? ⟨w.heap.size + 1, 5, none⟩ = some (.int .i64 (rw b 5)) := (hE.cells _ _ (by first | exact l1 | (simp; done) | (simp; omega))).trans (by first | exact k1_5 | (go_simp; done)); replace l0 : w.heap.size < w1.heap.size := Nat.lt_of_lt_of_le (by first | exact l0 | (simp; done) | (simp; omega)) hE.size; replace l1 : w.heap.size + 1 < w1.heap.size := Nat.lt_of_lt_of_le (by first | exact l1 | (simp; done) | (simp; omega)) hE.size
  go_wp2
  go_returns
  exact ⟨rfl, (by (repeat' (first | (with_reducible exact Ext.refl _) | (with_reducible assumption) | (with_reducible refine Ext.alloc ?_ _) | (with_reducible refine Ext.drew ?_) | (with_reducible refine Ext.drewN ?_ _) | (with_reducible refine Ext.setCell ?_ ?_ _) | (with_reducible refine Ext.trans ?_ (by assumption)))) <;> (first | (with_reducible assumption) | omega | (simp; done) | (simp; omega)))⟩
/-- does a stamp, pressed at the cell with a number, fit into a sheet? -/
def fitP (n m k : Nat) : Bool := decide (sh m (k % 6) (k / 6) &&& cmp n = 0)
/-- a set, shrunk by a stamp -/
def shr (n m : Nat) : Nat := mkN (fitP n m) 36
theorem shr_lt (n m : Nat) : shr n m < 68719476736 := mk36_lt _
theorem mk_lt (p : Nat → Bool) (k : Nat) (hk : k ≤ 36) : mkN p k < 68719476736 := Nat.lt_of_lt_of_le (mkN_lt p k) (Nat.pow_le_pow_right (by omega) hk)
theorem mk_flip (p : Nat → Bool) (k : Nat) (hk : k < 36) (h : p k = true) : mkN p k ^^^ 2 ^ k = mkN p (k + 1) :=
  ext36 (xor36 (mk_lt p k (by omega)) (pow36 hk)) (mk_lt p (k + 1) (by omega)) fun j hj => by
    rw [Nat.testBit_xor, testBit_mkN, testBit_mkN, Nat.testBit_two_pow]
    by_cases e : k = j
    · subst e
      rw [h, decide_eq_true rfl, decide_eq_true (show k < k + 1 by omega), decide_eq_false (Nat.lt_irrefl k)]; rfl
    · rw [decide_eq_false e]
      by_cases hl : j < k
      · rw [decide_eq_true hl, decide_eq_true (show j < k + 1 by omega)]; simp
      · rw [decide_eq_false hl, decide_eq_false (show ¬ j < k + 1 by omega)]; rfl
theorem mk_skip (p : Nat → Bool) (k : Nat) (hk : k < 36) (h : p k = false) : mkN p k = mkN p (k + 1) :=
  ext36 (mk_lt p k (by omega)) (mk_lt p (k + 1) (by omega)) fun j hj => by
    rw [testBit_mkN, testBit_mkN]
    by_cases e : k = j
    · subst e
      rw [h]; simp
    · by_cases hl : j < k
      · rw [decide_eq_true hl, decide_eq_true (show j < k + 1 by omega)]
      · rw [decide_eq_false hl, decide_eq_false (show ¬ j < k + 1 by omega)]
theorem andn64s {a b : Nat} (ha : a < 68719476736) (hb : b < 68719476736) : bits .andNot .u64 (a : Int) (b : Int) = ((a &&& cmp b : Nat) : Int) := by
  rw [u64_andNot_nat a b (by omega) (by omega)]
  refine nat_int (ext36 (and36 _ ha) (and36 _ ha) fun k hk => ?_)
  rw [Nat.testBit_and, Nat.testBit_and, testBit_cmp b k hk, show 18446744073709551615 - b = 2 ^ 64 - (b + 1) by omega, Nat.testBit_two_pow_sub_succ (by omega), show decide (k < 64) = true from decide_eq_true (by omega), Bool.true_and]
theorem shrunk1_any (n m k : Nat) (hn : n < 68719476736) (hm : m < 68719476736) (hk : k < 36) (x y : Nat) (w : World) (hx : x < w.heap.size) (hy : y < w.heap.size) (h1 : w.cell? ⟨x, 0, none⟩ = some (.int .u64 (m : Int))) (h2 : w.cell? ⟨y, 0, none⟩ = some (.int .u64 (n : Int))) :
    Calls Try.prog 151 #[.int .i64 (k : Int), .pointer (some ⟨x, 0, none⟩), .pointer (some ⟨y, 0, none⟩)] w fun e w' => e = .returned (.bool (fitP n m k)) ∧ Ext w w' := by
  have HP := Lib.hid (fun w => pressed_any m k hm hk w)
  unfold fitP
  have hz := sh_lt m (k % 6) (k / 6)
  generalize sh m (k % 6) (k / 6) = z at *
  have e64 := andn64s hz hn
  generalize z &&& cmp n = q at *
  skip
  go_enter Try.func151, Try.ntmps151
  go_wp2
  refine wp_calm0 (by kernel_rfl) (by kernel_rfl) ?_; intro hgr; (refine walkQ_step (fun K hK => ?_); go_simp; (try (go_ints; try go_simp)); first | (refine hK _ ?_; clear hK K) | (apply Exists.intro; refine ⟨fun _ => ?_, hK _ ?_⟩; ((go_at_call 97; exact (HP.out _))); clear hK K) | (simp only [↓IntWalk.iteOmega]; (try go_simp); (try (go_ints; try go_simp)); first | (refine hK _ ?_; clear hK K) | (apply Exists.intro; refine ⟨fun _ => ?_, hK _ ?_⟩; ((go_at_call 97; exact (HP.out _))); clear hK K))); (refine walkQ_step (fun K hK => ?_); go_simp; (try (go_ints; try go_simp)); first | (refine hK _ ?_; clear hK K) | (apply Exists.intro; refine ⟨fun _ => ?_, hK _ ?_⟩; ((go_at_call 97; exact (HP.out _))); clear hK K) | (simp only [↓IntWalk.iteOmega]; (try go_simp); (try (go_ints; try go_simp)); first | (refine hK _ ?_; clear hK K) | (apply Exists.intro; refine ⟨fun _ => ?_, hK _ ?_⟩; ((go_at_call 97; exact (HP.out _))); clear hK K))); (refine walkQ_step (fun K hK => ?_); go_simp; (try (go_ints; try go_simp)); first | (refine hK _ ?_; clear hK K) | (apply Exists.intro; refine ⟨fun _ => ?_, hK _ ?_⟩; ((go_at_call 97; exact (HP.out _))); clear hK K) | (simp only [↓IntWalk.iteOmega]; (try go_simp); (try (go_ints; try go_simp)); first | (refine hK _ ?_; clear hK K) | (apply Exists.intro; refine ⟨fun _ => ?_, hK _ ?_⟩; ((go_at_call 97; exact (HP.out _))); clear hK K))); (refine walkQ_step (fun K hK => ?_); go_simp; (try (go_ints; try go_simp)); first | (refine hK _ ?_; clear hK K) | (apply Exists.intro; refine ⟨fun _ => ?_, hK _ ?_⟩; ((go_at_call 97; exact (HP.out _))); clear hK K) | (simp only [↓IntWalk.iteOmega]; (try go_simp); (try (go_ints; try go_simp)); first | (refine hK _ ?_; clear hK K) | (apply Exists.intro; refine ⟨fun _ => ?_, hK _ ?_⟩; ((go_at_call 97; exact (HP.out _))); clear hK K))); (refine walkQ_step (fun K hK => ?_); go_simp; (try (go_ints; try go_simp)); first | (refine hK _ ?_; clear hK K) | (apply Exists.intro; refine ⟨fun _ => ?_, hK _ ?_⟩; ((go_at_call 97; exact (HP.out _))); clear hK K) | (simp only [↓IntWalk.iteOmega]; (try go_simp); (try (go_ints; try go_simp)); first | (refine hK _ ?_; clear hK K) | (apply Exists.intro; refine ⟨fun _ => ?_, hK _ ?_⟩; ((go_at_call 97; exact (HP.out _))); clear hK K))); (refine walkQ_step (fun K hK => ?_); go_simp; (try (go_ints; try go_simp)); first | (refine hK _ ?_; clear hK K) | (apply Exists.intro; refine ⟨fun _ => ?_, hK _ ?_⟩; ((go_at_call 97; exact (HP.out _))); clear hK K) | (simp only [↓IntWalk.iteOmega]; (try go_simp); (try (go_ints; try go_simp)); first | (refine hK _ ?_; clear hK K) | (apply Exists.intro; refine ⟨fun _ => ?_, hK _ ?_⟩; ((go_at_call 97; exact (HP.out _))); clear hK K))); (refine walkQ_step (fun K hK => ?_); go_simp; (try (go_ints; try go_simp)); first | (refine hK _ ?_; clear hK K) | (apply Exists.intro; refine ⟨fun _ => ?_, hK _ ?_⟩; ((go_at_call 97; exact (HP.out _))); clear hK K) | (simp only [↓IntWalk.iteOmega]; (try go_simp); (try (go_ints; try go_simp)); first | (refine hK _ ?_; clear hK K) | (apply Exists.intro; refine ⟨fun _ => ?_, hK _ ?_⟩; ((go_at_call 97; exact (HP.out _))); clear hK K))); refine walkQ_nil ?_; clear hgr; intro w1 hE; have hc2 := hE.cells; have hf2 := hE.frees; have hz2 := hE.size
  replace hE : Ext w w1 := ((Ext.refl w).drew).trans hE
  go_wp2
  go_returns
  exact ⟨ret_bool (by rw [Bool.eq_iff_iff]; simp; try omega), (by (repeat' (first | (with_reducible exact Ext.refl _) | (with_reducible assumption) | (with_reducible refine Ext.alloc ?_ _) | (with_reducible refine Ext.drew ?_) | (with_reducible refine Ext.drewN ?_ _) | (with_reducible refine Ext.setCell ?_ ?_ _) | (with_reducible refine Ext.trans ?_ (by assumption)))) <;> (first | (with_reducible assumption) | omega | (simp; done) | (simp; omega)))⟩
theorem shrunk_n (n m : Nat) (hn : n < 68719476736) (hm : m < 68719476736) (w : World) : Calls Try.prog 111 #[.int .u64 (n : Int), .int .u64 (m : Int)] w fun e w' => e = .returned (.int .u64 (shr n m : Nat)) ∧ Ext w w' := by
  have HW := Lib.hid (fun (x y : Nat) (w : World) (hx : x < w.heap.size) (hy : y < w.heap.size) (h1 : w.cell? ⟨x, 0, none⟩ = some (.int .u64 (m : Int))) (h2 : w.cell? ⟨y, 0, none⟩ = some (.int .u64 (n : Int))) =>
    where_any 151 #[.pointer (some ⟨x, 0, none⟩), .pointer (some ⟨y, 0, none⟩)] (fitP n m) w Try.call151 fun k hk w' hE =>
      shrunk1_any n m k hn hm hk x y w' (Nat.lt_of_lt_of_le hx hE.size) (Nat.lt_of_lt_of_le hy hE.size) ((hE.cells _ _ hx).trans h1) ((hE.cells _ _ hy).trans h2))
  unfold shr
  generalize mkN (fitP n m) 36 = R at *
  go_enter Try.func111, Try.ntmps111
  go_wp2_with (go_at_call 92; refine (HW.out (w.heap.size + 1) w.heap.size _ (by simp) (by simp; omega) (by go_simp) (by go_simp)).mono ?_; rintro e w1 ⟨rfl, hE⟩)
  go_returns
  exact ⟨rfl, (by (repeat' (first | (with_reducible exact Ext.refl _) | (with_reducible assumption) | (with_reducible refine Ext.alloc ?_ _) | (with_reducible refine Ext.drew ?_) | (with_reducible refine Ext.drewN ?_ _) | (with_reducible refine Ext.setCell ?_ ?_ _) | (with_reducible refine Ext.trans ?_ (by assumption)))) <;> (first | (with_reducible assumption) | omega | (simp; done) | (simp; omega)))⟩
theorem l2Cells_n (n : Nat) (w : World) : Calls Try.prog 152 #[(.agg #[.int .i64 (rw n 0), .int .i64 (rw n 1), .int .i64 (rw n 2), .int .i64 (rw n 3), .int .i64 (rw n 4), .int .i64 (rw n 5)])] w fun e w' => ∃ v, e = .returned v ∧ Ext w w' ∧ w'.ownsRow w.heap.size 33 2 v (fl n.testBit 36).length (pxy (fl n.testBit 36)) := by
  obtain ⟨i0, hi, iz0, iz1, iz2⟩ := info_parts info_two
  skip
  go_enter Try.func152, Try.ntmps152
  go_wp2
  go_loopw [3, 4] (fun v i wr => ∃ y : Nat, y ≤ 6 ∧ i = .int .i64 y ∧ Ext w wr ∧ Arr wr w.heap.size (rw n) ∧ w.heap.size + 1 < wr.heap.size ∧ wr.ownsRow (w.heap.size + 1) 33 2 v (fl n.testBit (6 * y)).length (pxy (fl n.testBit (6 * y)))) (fun _ i _ => 6 - (intOf i).toNat)
  case atStart => exact ⟨0, Nat.zero_le _, rfl, (by (repeat' (first | (with_reducible exact Ext.refl _) | (with_reducible assumption) | (with_reducible refine Ext.alloc ?_ _) | (with_reducible refine Ext.drew ?_) | (with_reducible refine Ext.drewN ?_ _) | (with_reducible refine Ext.setCell ?_ ?_ _) | (with_reducible refine Ext.trans ?_ (by assumption)))) <;> (first | (with_reducible assumption) | omega | (simp; done) | (simp; omega))), (Arr.new w (rw n) _ rfl).alloc _ (by simp), by simp, own_empty _ 33 2 _ (by simp) (by simp)⟩
  case round =>
    obtain ⟨y, hy6, rfl, hx, ha, hz, ho⟩ := hrel
    have HA := Lib.hid ha
    have HO := Lib.hid ho
    clear ha ho
    by_cases hlt : y < 6
    · have hd : decide ((y : Int) < 6) = true := decide_eq_true (by omega)
      go_wp2
      go_loopw [3, 5] (fun v i wr => ∃ x : Nat, x ≤ 6 ∧ i = .int .i64 x ∧ Ext w wr ∧ Arr wr w.heap.size (rw n) ∧ w.heap.size + 1 < wr.heap.size ∧ wr.ownsRow (w.heap.size + 1) 33 2 v (fl n.testBit (6 * y + x)).length (pxy (fl n.testBit (6 * y + x)))) (fun _ i _ => 6 - (intOf i).toNat)
      case atStart => exact ⟨0, Nat.zero_le _, rfl, hx, HA.out, hz, HO.out⟩
      case round =>
        clear HA HO hx hz
        obtain ⟨x, hx6, rfl, hx, ha, hz, ho⟩ := hrel
        obtain ⟨wo, rfl⟩ : ∃ wo : World, wo = wr := ⟨_, rfl⟩
        have HA := Lib.hid ha
        have HO := Lib.hid ho
        clear ha ho
        by_cases hlx : x < 6
        · obtain ⟨⟨c0, c1, c2, c3, c4, c5⟩, _⟩ := HA.out.all
          have za : w.heap.size < wo.heap.size := by omega
          have hle := fl_le n.testBit (6 * y + x)
          have HG := Lib.hid (fun w => l2Get_n n x y hlx hlt w)
          have Q := Lib.hid (show pxy [6 * y + x] = [.int .i64 (x : Int), .int .i64 (y : Int)] by
            show [Value.int .i64 (((6 * y + x) % 6 : Nat) : Int), Value.int .i64 (((6 * y + x) / 6 : Nat) : Int)] = _
            rw [show (6 * y + x) % 6 = x by omega, show (6 * y + x) / 6 = y by omega])
          cases hp : n.testBit (6 * y + x)
          · rw [hp] at HG
            have e := fl_miss hp
            rw [← e] at HO
            clear hp e
            go_wp2_with ((go_at_call 166; refine (HG.out _).mono ?_; rintro e w1 ⟨rfl, hE⟩); have hs := hE.size)
            (first | exact ⟨⟨x + 1, by omega, by go_num, (by (repeat' (first | (with_reducible exact Ext.refl _) | (with_reducible assumption) | (with_reducible refine Ext.alloc ?_ _) | (with_reducible refine Ext.drew ?_) | (with_reducible refine Ext.drewN ?_ _) | (with_reducible refine Ext.setCell ?_ ?_ _) | (with_reducible refine Ext.trans ?_ (by assumption)))) <;> (first | (with_reducible assumption) | omega | (simp; done) | (simp; omega))), HA.out.ext hE za, by omega, own_ext HO.out hE⟩, by simp [intOf]; omega⟩ | (refine ⟨?_, by simp [intOf]; omega⟩; (repeat apply Exists.intro); exact ⟨⟨x + 1, by omega, by go_num, (by (repeat' (first | (with_reducible exact Ext.refl _) | (with_reducible assumption) | (with_reducible refine Ext.alloc ?_ _) | (with_reducible refine Ext.drew ?_) | (with_reducible refine Ext.drewN ?_ _) | (with_reducible refine Ext.setCell ?_ ?_ _) | (with_reducible refine Ext.trans ?_ (by assumption)))) <;> (first | (with_reducible assumption) | omega | (simp; done) | (simp; omega))), HA.out.ext hE za, by omega, own_ext HO.out hE⟩, rfl⟩))
          · rw [hp] at HG
            have e := Lib.hid (fl_hit hp)
            clear hp
            go_wp2_with (first | ((go_at_call 166; refine (HG.out _).mono ?_; rintro e w1 ⟨rfl, hE⟩); have hs := hE.size; have HO1 := Lib.hid (own_ext HO.out hE)) | (at_builtin; refine wpList_append_own _ rfl _ _ 28 rfl (w.heap.size + 1) 33 i0 (.agg #[.int .i64 0, .int .i64 0]) 2 16 Try.underlying28 hi iz0 iz1 iz2 rfl (by decide) _ _ _ rfl (HO1.out.alloc _) ⟨_, 0, none⟩ 1 1 [.int .i64 (x : Int), .int .i64 (y : Int)] rfl rfl two_cells (by simp [Value.oneCell']) (by unfold maxLen; omega) (by omega) (by simp; omega) ?_; intro v1 w2 hown hgrow _))
            have HP := Lib.hid (own_push (hx.trans hE) (by omega) HO1.out hgrow)
            have hs2 := hgrow.size
            (first | exact ⟨⟨x + 1, by omega, by go_num, HP.out.1, HP.out.2 _ _ (by omega) (by omega) (HA.out.ext hE za), by simp at hs2; omega, by rw [show 6 * y + (x + 1) = 6 * y + x + 1 from rfl, e.out, List.length_append, pxy_append, Q.out]; exact hown⟩, by simp [intOf]; omega⟩ | (refine ⟨?_, by simp [intOf]; omega⟩; (repeat apply Exists.intro); exact ⟨⟨x + 1, by omega, by go_num, HP.out.1, HP.out.2 _ _ (by omega) (by omega) (HA.out.ext hE za), by simp at hs2; omega, by rw [show 6 * y + (x + 1) = 6 * y + x + 1 from rfl, e.out, List.length_append, pxy_append, Q.out]; exact hown⟩, rfl⟩))
        · obtain rfl : x = 6 := by omega
          go_wp2
          (first | exact ⟨⟨y + 1, by omega, by go_num, hx, HA.out, hz, by rw [show 6 * (y + 1) = 6 * y + 6 by omega]; exact HO.out⟩, by simp [intOf]; omega⟩ | (refine ⟨?_, by simp [intOf]; omega⟩; (repeat apply Exists.intro); exact ⟨⟨y + 1, by omega, by go_num, hx, HA.out, hz, by rw [show 6 * (y + 1) = 6 * y + 6 by omega]; exact HO.out⟩, rfl⟩))
    · obtain rfl : y = 6 := by omega
      go_wp2
      go_returns
      exact ⟨_, rfl, (by (repeat' (first | (with_reducible exact Ext.refl _) | (with_reducible assumption) | (with_reducible refine Ext.alloc ?_ _) | (with_reducible refine Ext.drew ?_) | (with_reducible refine Ext.drewN ?_ _) | (with_reducible refine Ext.setCell ?_ ?_ _) | (with_reducible refine Ext.trans ?_ (by assumption)))) <;> (first | (with_reducible assumption) | omega | (simp; done) | (simp; omega))), own_mono HO.out (by omega)⟩
theorem l5Spread_n (n m : Nat) (w : World) : Calls Try.prog 165 #[(.agg #[.int .i64 (rw n 0), .int .i64 (rw n 1), .int .i64 (rw n 2), .int .i64 (rw n 3), .int .i64 (rw n 4), .int .i64 (rw n 5)]), (.agg #[.int .i64 (rw m 0), .int .i64 (rw m 1), .int .i64 (rw m 2), .int .i64 (rw m 3), .int .i64 (rw m 4), .int .i64 (rw m 5)])] w fun e w' => e = .returned (.agg #[.int .i64 (rw (spr n m) 0), .int .i64 (rw (spr n m) 1), .int .i64 (rw (spr n m) 2), .int .i64 (rw (spr n m) 3), .int .i64 (rw (spr n m) 4), .int .i64 (rw (spr n m) 5)]) ∧ Ext w w' := by
  have HL := Lib.hid (fun w => l2Cells_n m w)
  have hlen := fl_le m.testBit 36
  have HG := Lib.hid (fun i k (h : (fl m.testBit 36)[i]? = some k) => fl_lt h)
  unfold spr
  generalize fl m.testBit 36 = L at *
  skip
  go_enter Try.func165, Try.ntmps165
  go_wp2_with (go_at_call 152; refine (HL.out _).mono ?_; rintro e w1 ⟨v, rfl, hE, ho⟩; skip; replace HR := Lib.hid ((show Arr _ (w.heap.size + 2) (fun _ => 0) by first | exact HR.out | exact Arr.new _ (fun _ => 0) _ (by first | rfl | (simp; done) | (simp; omega))).ext hE (by first | exact lR | (simp; done) | (simp; omega))); replace lR : w.heap.size + 2 < w1.heap.size := Nat.lt_of_lt_of_le (by first | exact lR | (simp; done) | (simp; omega)) hE.size; (try clear d0 d1 d2 d3 d4 d5 f0 f1 f2 f3 f4 f5); obtain ⟨⟨d0, d1, d2, d3, d4, d5⟩, f0, f1, f2, f3, f4, f5⟩ := HR.out.all; replace HA := Lib.hid ((show Arr _ (w.heap.size) (rw n) by first | with_reducible exact HA.out | with_reducible exact Arr.ext HA.out ((Ext.refl _).alloc _) lHA | with_reducible exact Arr.ext HA.out (((Ext.refl _).alloc _).alloc _) lHA | with_reducible exact Arr.ext HA.out ((((Ext.refl _).alloc _).alloc _).alloc _) lHA | exact HA.out | exact Arr.new _ (rw n) _ (by first | rfl | (simp; done) | (simp; omega)) | exact (Arr.new _ (rw n) _ (by first | rfl | (simp; done) | (simp; omega))).ext ((Ext.refl _).alloc _) (by first | (simp; done) | (simp; omega)) | exact ((Arr.new _ (rw n) _ (by first | rfl | (simp; done) | (simp; omega))).ext ((Ext.refl _).alloc _) (by first | (simp; done) | (simp; omega))).ext ((Ext.refl _).alloc _) (by first | (simp; done) | (simp; omega)) | exact (((Arr.new _ (rw n) _ (by first | rfl | (simp; done) | (simp; omega))).ext ((Ext.refl _).alloc _) (by first | (simp; done) | (simp; omega))).ext ((Ext.refl _).alloc _) (by first | (simp; done) | (simp; omega))).ext ((Ext.refl _).alloc _) (by first | (simp; done) | (simp; omega))).ext hE (by first | exact lHA | (simp; done) | (simp; omega))); replace lHA : w.heap.size < w1.heap.size := Nat.lt_of_lt_of_le (by first | exact lHA | (simp; done) | (simp; omega)) hE.size; (try clear HA0 HA1 HA2 HA3 HA4 HA5); obtain ⟨⟨HA0, HA1, HA2, HA3, HA4, HA5⟩, _⟩ := HA.out.all; replace HB := Lib.hid ((show Arr _ (w.heap.size + 1) (rw m) by first | with_reducible exact HB.out | with_reducible exact Arr.ext HB.out ((Ext.refl _).alloc _) lHB | with_reducible exact Arr.ext HB.out (((Ext.refl _).alloc _).alloc _) lHB | with_reducible exact Arr.ext HB.out ((((Ext.refl _).alloc _).alloc _).alloc _) lHB | exact HB.out | exact Arr.new _ (rw m) _ (by first | rfl | (simp; done) | (simp; omega)) | exact (Arr.new _ (rw m) _ (by first | rfl | (simp; done) | (simp; omega))).ext ((Ext.refl _).alloc _) (by first | (simp; done) | (simp; omega)) | exact ((Arr.new _ (rw m) _ (by first | rfl | (simp; done) | (simp; omega))).ext ((Ext.refl _).alloc _) (by first | (simp; done) | (simp; omega))).ext ((Ext.refl _).alloc _) (by first | (simp; done) | (simp; omega)) | exact (((Arr.new _ (rw m) _ (by first | rfl | (simp; done) | (simp; omega))).ext ((Ext.refl _).alloc _) (by first | (simp; done) | (simp; omega))).ext ((Ext.refl _).alloc _) (by first | (simp; done) | (simp; omega))).ext ((Ext.refl _).alloc _) (by first | (simp; done) | (simp; omega))).ext hE (by first | exact lHB | (simp; done) | (simp; omega))); replace lHB : w.heap.size + 1 < w1.heap.size := Nat.lt_of_lt_of_le (by first | exact lHB | (simp; done) | (simp; omega)) hE.size; (try clear HB0 HB1 HB2 HB3 HB4 HB5); obtain ⟨⟨HB0, HB1, HB2, HB3, HB4, HB5⟩, _⟩ := HB.out.all; obtain ⟨ao, cap, rfl, hsh⟩ := own_shape ho; have HO := Lib.hid ho; clear ho; obtain ⟨wa, rfl⟩ : ∃ x, x = w1 := ⟨_, rfl⟩)
  skip
  obtain ⟨b, hb⟩ : ∃ b, b = wa.heap.size := ⟨_, rfl⟩
  rw [← hb]
  have HQ := Lib.hid hb
  have hbz : wa.heap.size ≤ b := by omega
  clear hb
  go_loopw [7] (fun i wr => ∃ j : Nat, j ≤ L.length ∧ i = .int .i64 j ∧ Ext wa wr ∧ Arr wr w.heap.size (rw n) ∧ Arr wr (w.heap.size + 2) (fun _ => 0) ∧ Arr wr b (rw (inkL n (L.take j))) ∧ b < wr.heap.size) (fun i _ => L.length - (intOf i).toNat)
  case atStart =>
    refine ⟨0, Nat.zero_le _, rfl, (by (repeat' (first | (with_reducible exact Ext.refl _) | (with_reducible assumption) | (with_reducible refine Ext.alloc ?_ _) | (with_reducible refine Ext.drew ?_) | (with_reducible refine Ext.drewN ?_ _) | (with_reducible refine Ext.setCell ?_ ?_ _) | (with_reducible refine Ext.trans ?_ (by assumption)))) <;> (first | (with_reducible assumption) | omega | (simp; done) | (simp; omega))), HA.out.alloc _ lHA, HR.out.alloc _ lR, ?_, by have := HQ.out; simp; omega⟩
    exact (Arr.new0 wa 26 HQ.out).congr fun j _ => (show (0 : Int) = rw 0 j by rw [rw_nat]; unfold rowN; rw [Nat.zero_div]; rfl)
  case round =>
    obtain ⟨j, hj, rfl, hx, ha, hr, ht, hz⟩ := hrel
    obtain ⟨wo, rfl⟩ : ∃ wo : World, wo = wr := ⟨_, rfl⟩
    clear HA HB HR HA0 HA1 HA2 HA3 HA4 HA5 HB0 HB1 HB2 HB3 HB4 HB5 d0 d1 d2 d3 d4 d5 f0 f1 f2 f3 f4 f5
    have HA := Lib.hid ha
    have HR := Lib.hid hr
    have HT := Lib.hid ht
    clear ha hr ht
    have hsz := hx.size
    have za : w.heap.size < wo.heap.size := by omega
    have zr : w.heap.size + 2 < wo.heap.size := by omega
    by_cases hlt : j < L.length
    · obtain ⟨vb, rfl, _, hvb⟩ := hsh (by omega)
      obtain ⟨k, hk⟩ : ∃ k, L[j]? = some k := ⟨L[j], List.getElem?_eq_getElem hlt⟩
      have hk36 := HG.out j k hk
      have p1 := ((own_ext HO.out hx).cellAt (j * 2) (by omega)).trans (pxy_get L j k hk).1
      have p2 := ((own_ext HO.out hx).cellAt (j * 2 + 1) (by omega)).trans (pxy_get L j k hk).2
      have zv : vb < wo.heap.size := by omega
      obtain ⟨⟨c0, c1, c2, c3, c4, c5⟩, _⟩ := HA.out.all
      obtain ⟨⟨t0, t1, t2, t3, t4, t5⟩, _⟩ := HT.out.all
      have H1 := Lib.hid (fun w => l2At_n n (k % 6) (k / 6) (by omega) (by omega) w)
      have H2 := Lib.hid (fun w => l2Or_n (inkL n (L.take j)) (sh n (k % 6) (k / 6)) w)
      have HS := Lib.hid (inkL_step n L j k hk)
      rw [← HS.out] at H2
      clear hk
      generalize k % 6 = kx at *
      generalize k / 6 = ky at *
      go_wp2
      refine wp_calm 8 0 (fun _ => (#[], 0)) (by kernel_rfl) (by kernel_rfl) ?_; simp only [List.take_succ_cons, List.take_zero, List.drop_succ_cons, List.drop_zero]; intro hgr; (refine walkQ_step (fun K hK => ?_); go_simp; (try (go_ints; try go_simp)); first | (refine hK _ ?_; clear hK K) | (apply Exists.intro; refine ⟨fun _ => ?_, hK _ ?_⟩; (first | (go_at_call 154; exact (H1.out _)) | (go_at_call 137; exact (H2.out _))); clear hK K) | (simp only [↓IntWalk.iteOmega]; (try go_simp); (try (go_ints; try go_simp)); first | (refine hK _ ?_; clear hK K) | (apply Exists.intro; refine ⟨fun _ => ?_, hK _ ?_⟩; (first | (go_at_call 154; exact (H1.out _)) | (go_at_call 137; exact (H2.out _))); clear hK K))); (refine walkQ_step (fun K hK => ?_); go_simp; (try (go_ints; try go_simp)); first | (refine hK _ ?_; clear hK K) | (apply Exists.intro; refine ⟨fun _ => ?_, hK _ ?_⟩; (first | (go_at_call 154; exact (H1.out _)) | (go_at_call 137; exact (H2.out _))); clear hK K) | (simp only [↓IntWalk.iteOmega]; (try go_simp); (try (go_ints; try go_simp)); first | (refine hK _ ?_; clear hK K) | (apply Exists.intro; refine ⟨fun _ => ?_, hK _ ?_⟩; (first | (go_at_call 154; exact (H1.out _)) | (go_at_call 137; exact (H2.out _))); clear hK K))); (refine walkQ_step (fun K hK => ?_); go_simp; (try (go_ints; try go_simp)); first | (refine hK _ ?_; clear hK K) | (apply Exists.intro; refine ⟨fun _ => ?_, hK _ ?_⟩; (first | (go_at_call 154; exact (H1.out _)) | (go_at_call 137; exact (H2.out _))); clear hK K) | (simp only [↓IntWalk.iteOmega]; (try go_simp); (try (go_ints; try go_simp)); first | (refine hK _ ?_; clear hK K) | (apply Exists.intro; refine ⟨fun _ => ?_, hK _ ?_⟩; (first | (go_at_call 154; exact (H1.out _)) | (go_at_call 137; exact (H2.out _))); clear hK K))); (refine walkQ_step (fun K hK => ?_); go_simp; (try (go_ints; try go_simp)); first | (refine hK _ ?_; clear hK K) | (apply Exists.intro; refine ⟨fun _ => ?_, hK _ ?_⟩; (first | (go_at_call 154; exact (H1.out _)) | (go_at_call 137; exact (H2.out _))); clear hK K) | (simp only [↓IntWalk.iteOmega]; (try go_simp); (try (go_ints; try go_simp)); first | (refine hK _ ?_; clear hK K) | (apply Exists.intro; refine ⟨fun _ => ?_, hK _ ?_⟩; (first | (go_at_call 154; exact (H1.out _)) | (go_at_call 137; exact (H2.out _))); clear hK K))); (refine walkQ_step (fun K hK => ?_); go_simp; (try (go_ints; try go_simp)); first | (refine hK _ ?_; clear hK K) | (apply Exists.intro; refine ⟨fun _ => ?_, hK _ ?_⟩; (first | (go_at_call 154; exact (H1.out _)) | (go_at_call 137; exact (H2.out _))); clear hK K) | (simp only [↓IntWalk.iteOmega]; (try go_simp); (try (go_ints; try go_simp)); first | (refine hK _ ?_; clear hK K) | (apply Exists.intro; refine ⟨fun _ => ?_, hK _ ?_⟩; (first | (go_at_call 154; exact (H1.out _)) | (go_at_call 137; exact (H2.out _))); clear hK K))); (refine walkQ_step (fun K hK => ?_); go_simp; (try (go_ints; try go_simp)); first | (refine hK _ ?_; clear hK K) | (apply Exists.intro; refine ⟨fun _ => ?_, hK _ ?_⟩; (first | (go_at_call 154; exact (H1.out _)) | (go_at_call 137; exact (H2.out _))); clear hK K) | (simp only [↓IntWalk.iteOmega]; (try go_simp); (try (go_ints; try go_simp)); first | (refine hK _ ?_; clear hK K) | (apply Exists.intro; refine ⟨fun _ => ?_, hK _ ?_⟩; (first | (go_at_call 154; exact (H1.out _)) | (go_at_call 137; exact (H2.out _))); clear hK K))); (refine walkQ_step (fun K hK => ?_); go_simp; (try (go_ints; try go_simp)); first | (refine hK _ ?_; clear hK K) | (apply Exists.intro; refine ⟨fun _ => ?_, hK _ ?_⟩; (first | (go_at_call 154; exact (H1.out _)) | (go_at_call 137; exact (H2.out _))); clear hK K) | (simp only [↓IntWalk.iteOmega]; (try go_simp); (try (go_ints; try go_simp)); first | (refine hK _ ?_; clear hK K) | (apply Exists.intro; refine ⟨fun _ => ?_, hK _ ?_⟩; (first | (go_at_call 154; exact (H1.out _)) | (go_at_call 137; exact (H2.out _))); clear hK K))); (refine walkQ_step (fun K hK => ?_); go_simp; (try (go_ints; try go_simp)); first | (refine hK _ ?_; clear hK K) | (apply Exists.intro; refine ⟨fun _ => ?_, hK _ ?_⟩; (first | (go_at_call 154; exact (H1.out _)) | (go_at_call 137; exact (H2.out _))); clear hK K) | (simp only [↓IntWalk.iteOmega]; (try go_simp); (try (go_ints; try go_simp)); first | (refine hK _ ?_; clear hK K) | (apply Exists.intro; refine ⟨fun _ => ?_, hK _ ?_⟩; (first | (go_at_call 154; exact (H1.out _)) | (go_at_call 137; exact (H2.out _))); clear hK K))); refine walkQ_nil ?_; clear hgr; refine walkF_nil ?_; intro w1 hE _; have hc2 := hE.cells; have hf2 := hE.frees; have hz2 := hE.size
      replace hE : Ext wo w1 := ((Ext.refl wo).drew).trans hE
      have hs := hE.size
      have HT1 := Lib.hid (HT.out.ext hE hz)
      obtain ⟨⟨u0, u1, u2, u3, u4, u5⟩, g0, g1, g2, g3, g4, g5⟩ := HT1.out.all
      go_wp2
      refine ⟨⟨j + 1, by omega, by go_num, (by (repeat' (first | (with_reducible exact Ext.refl _) | (with_reducible assumption) | (with_reducible refine Ext.alloc ?_ _) | (with_reducible refine Ext.drew ?_) | (with_reducible refine Ext.drewN ?_ _) | (with_reducible refine Ext.setCell ?_ ?_ _) | (with_reducible refine Ext.trans ?_ (by assumption)))) <;> (first | (with_reducible assumption) | omega | (simp; done) | (simp; omega))), ?_, ?_, HT1.out.six _, by simp; omega⟩, by simp [intOf]; omega⟩
      · exact ((((((HA.out.ext hE za).far (by dsimp only; omega) _).far (by dsimp only; omega) _).far (by dsimp only; omega) _).far (by dsimp only; omega) _).far (by dsimp only; omega) _).far (by dsimp only; omega) _
      · exact ((((((HR.out.ext hE zr).far (by dsimp only; omega) _).far (by dsimp only; omega) _).far (by dsimp only; omega) _).far (by dsimp only; omega) _).far (by dsimp only; omega) _).far (by dsimp only; omega) _
    · obtain rfl : j = L.length := by omega
      rw [inkL_all] at HT
      obtain ⟨⟨c0, c1, c2, c3, c4, c5⟩, _⟩ := HT.out.all
      obtain ⟨⟨d0, d1, d2, d3, d4, d5⟩, f0, f1, f2, f3, f4, f5⟩ := HR.out.all
      go_wp2
      exact bodyPost_ret (ret_cell rfl rfl (load_sheet (HR.out.six (rw (inkL n L))))) rfl ⟨rfl, (by (repeat' (first | (with_reducible exact Ext.refl _) | (with_reducible assumption) | (with_reducible refine Ext.alloc ?_ _) | (with_reducible refine Ext.drew ?_) | (with_reducible refine Ext.drewN ?_ _) | (with_reducible refine Ext.setCell ?_ ?_ _) | (with_reducible refine Ext.trans ?_ (by assumption)))) <;> (first | (with_reducible assumption) | omega | (simp; done) | (simp; omega)))⟩
end Go.Proofs.Ytlifhoajamnehaa
