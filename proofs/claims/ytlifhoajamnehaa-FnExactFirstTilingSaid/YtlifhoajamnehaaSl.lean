/- Sl: contracts of functions, and lemmas, for this seat. Conditions: as each states. -/
import Derived.Test.YtlifhoajamnehaaOwn
import Derived.Test.YtlifhoajamnehaaConv
import Derived.Test.YtlifhoajamnehaaLaw
set_option linter.unusedVariables false
set_option maxRecDepth 100000
set_option maxHeartbeats 1000000
namespace Go.Proofs.Ytlifhoajamnehaa
open Go Go.RowKit Instr
theorem eqIntA2S_big (B C n : Nat) (g : Nat → Int) (v u : Value) (w : World) (hn : n < 2000000) (h : w.ownsRow B 33 2 v n (Gl (n * 2) g)) (k : w.ownsRow C 33 2 u n (Gl (n * 2) g)) :
    Calls Try.prog 63 #[v, u] w fun e w' => e = .returned (.bool true) ∧ Ext w w' := by
  obtain ⟨ao, cap, rfl, ha⟩ := own_shape h
  obtain ⟨bo, cup, rfl, hb⟩ := own_shape k
  by_cases h0 : n = 0
  · subst h0
    clear h k ha hb
    go_enter Try.func63, Try.ntmps63
    go_wp2
    go_loopw [5] (fun i wr => i = .int .i64 0 ∧ Ext w wr) (fun _ _ => 0)
    case atStart => exact ⟨rfl, (by (repeat' (first | (with_reducible exact Ext.refl _) | (with_reducible assumption) | (with_reducible refine Ext.alloc ?_ _) | (with_reducible refine Ext.drew ?_) | (with_reducible refine Ext.drewN ?_ _) | (with_reducible refine Ext.setCell ?_ ?_ _) | (with_reducible refine Ext.trans ?_ (by assumption)))) <;> (first | (with_reducible assumption) | omega | (simp; done) | (simp; omega)))⟩
    case round =>
      obtain ⟨rfl, hx⟩ := hrel
      go_wp2
      go_returns
      exact ⟨rfl, (by (repeat' (first | (with_reducible exact Ext.refl _) | (with_reducible assumption) | (with_reducible refine Ext.alloc ?_ _) | (with_reducible refine Ext.drew ?_) | (with_reducible refine Ext.drewN ?_ _) | (with_reducible refine Ext.setCell ?_ ?_ _) | (with_reducible refine Ext.trans ?_ (by assumption)))) <;> (first | (with_reducible assumption) | omega | (simp; done) | (simp; omega)))⟩
  · obtain ⟨a, rfl, _, ha⟩ := ha (by omega)
    obtain ⟨b, rfl, _, hb⟩ := hb (by omega)
    have H := Lib.hid h
    have K := Lib.hid k
    clear h k
    skip
    go_enter Try.func63, Try.ntmps63
    go_wp2
    go_loopw [5] (fun i wr => ∃ j : Nat, j ≤ n ∧ i = .int .i64 j ∧ Ext w wr) (fun i _ => n - (intOf i).toNat)
    case atStart => exact ⟨0, Nat.zero_le _, rfl, (by (repeat' (first | (with_reducible exact Ext.refl _) | (with_reducible assumption) | (with_reducible refine Ext.alloc ?_ _) | (with_reducible refine Ext.drew ?_) | (with_reducible refine Ext.drewN ?_ _) | (with_reducible refine Ext.setCell ?_ ?_ _) | (with_reducible refine Ext.trans ?_ (by assumption)))) <;> (first | (with_reducible assumption) | omega | (simp; done) | (simp; omega)))⟩
    case round =>
      obtain ⟨j, hj, rfl, hx⟩ := hrel
      obtain ⟨wo, rfl⟩ : ∃ wo : World, wo = wr := ⟨_, rfl⟩
      by_cases hlt : j < n
      · have hs := hx.size
        have c1 := ((own_ext H.out hx).cellAt (j * 2) (by omega)).trans (Gl_get (by omega))
        have c2 := ((own_ext H.out hx).cellAt (j * 2 + 1) (by omega)).trans (Gl_get (by omega))
        have d1 := ((own_ext K.out hx).cellAt (j * 2) (by omega)).trans (Gl_get (by omega))
        have d2 := ((own_ext K.out hx).cellAt (j * 2 + 1) (by omega)).trans (Gl_get (by omega))
        have za : a < wo.heap.size := by omega
        have zb : b < wo.heap.size := by omega
        go_wp2
        refine wp_calm0 (by kernel_rfl) (by kernel_rfl) ?_; intro hgr; (refine walkQ_step (fun K hK => ?_); go_simp; (try (go_ints; try go_simp)); first | (refine hK _ ?_; clear hK K) | (apply Exists.intro; refine ⟨fun _ => ?_, hK _ ?_⟩; ((go_at_call 130; exact (eqIntA2_same _ _ _))); clear hK K) | (simp only [↓IntWalk.iteOmega]; (try go_simp); (try (go_ints; try go_simp)); first | (refine hK _ ?_; clear hK K) | (apply Exists.intro; refine ⟨fun _ => ?_, hK _ ?_⟩; ((go_at_call 130; exact (eqIntA2_same _ _ _))); clear hK K))); (refine walkQ_step (fun K hK => ?_); go_simp; (try (go_ints; try go_simp)); first | (refine hK _ ?_; clear hK K) | (apply Exists.intro; refine ⟨fun _ => ?_, hK _ ?_⟩; ((go_at_call 130; exact (eqIntA2_same _ _ _))); clear hK K) | (simp only [↓IntWalk.iteOmega]; (try go_simp); (try (go_ints; try go_simp)); first | (refine hK _ ?_; clear hK K) | (apply Exists.intro; refine ⟨fun _ => ?_, hK _ ?_⟩; ((go_at_call 130; exact (eqIntA2_same _ _ _))); clear hK K))); (refine walkQ_step (fun K hK => ?_); go_simp; (try (go_ints; try go_simp)); first | (refine hK _ ?_; clear hK K) | (apply Exists.intro; refine ⟨fun _ => ?_, hK _ ?_⟩; ((go_at_call 130; exact (eqIntA2_same _ _ _))); clear hK K) | (simp only [↓IntWalk.iteOmega]; (try go_simp); (try (go_ints; try go_simp)); first | (refine hK _ ?_; clear hK K) | (apply Exists.intro; refine ⟨fun _ => ?_, hK _ ?_⟩; ((go_at_call 130; exact (eqIntA2_same _ _ _))); clear hK K))); (refine walkQ_step (fun K hK => ?_); go_simp; (try (go_ints; try go_simp)); first | (refine hK _ ?_; clear hK K) | (apply Exists.intro; refine ⟨fun _ => ?_, hK _ ?_⟩; ((go_at_call 130; exact (eqIntA2_same _ _ _))); clear hK K) | (simp only [↓IntWalk.iteOmega]; (try go_simp); (try (go_ints; try go_simp)); first | (refine hK _ ?_; clear hK K) | (apply Exists.intro; refine ⟨fun _ => ?_, hK _ ?_⟩; ((go_at_call 130; exact (eqIntA2_same _ _ _))); clear hK K))); (refine walkQ_step (fun K hK => ?_); go_simp; (try (go_ints; try go_simp)); first | (refine hK _ ?_; clear hK K) | (apply Exists.intro; refine ⟨fun _ => ?_, hK _ ?_⟩; ((go_at_call 130; exact (eqIntA2_same _ _ _))); clear hK K) | (simp only [↓IntWalk.iteOmega]; (try go_simp); (try (go_ints; try go_simp)); first | (refine hK _ ?_; clear hK K) | (apply Exists.intro; refine ⟨fun _ => ?_, hK _ ?_⟩; ((go_at_call 130; exact (eqIntA2_same _ _ _))); clear hK K))); (refine walkQ_step (fun K hK => ?_); go_simp; (try (go_ints; try go_simp)); first | (refine hK _ ?_; clear hK K) | (apply Exists.intro; refine ⟨fun _ => ?_, hK _ ?_⟩; ((go_at_call 130; exact (eqIntA2_same _ _ _))); clear hK K) | (simp only [↓IntWalk.iteOmega]; (try go_simp); (try (go_ints; try go_simp)); first | (refine hK _ ?_; clear hK K) | (apply Exists.intro; refine ⟨fun _ => ?_, hK _ ?_⟩; ((go_at_call 130; exact (eqIntA2_same _ _ _))); clear hK K))); (refine walkQ_step (fun K hK => ?_); go_simp; (try (go_ints; try go_simp)); first | (refine hK _ ?_; clear hK K) | (apply Exists.intro; refine ⟨fun _ => ?_, hK _ ?_⟩; ((go_at_call 130; exact (eqIntA2_same _ _ _))); clear hK K) | (simp only [↓IntWalk.iteOmega]; (try go_simp); (try (go_ints; try go_simp)); first | (refine hK _ ?_; clear hK K) | (apply Exists.intro; refine ⟨fun _ => ?_, hK _ ?_⟩; ((go_at_call 130; exact (eqIntA2_same _ _ _))); clear hK K))); (refine walkQ_step (fun K hK => ?_); go_simp; (try (go_ints; try go_simp)); first | (refine hK _ ?_; clear hK K) | (apply Exists.intro; refine ⟨fun _ => ?_, hK _ ?_⟩; ((go_at_call 130; exact (eqIntA2_same _ _ _))); clear hK K) | (simp only [↓IntWalk.iteOmega]; (try go_simp); (try (go_ints; try go_simp)); first | (refine hK _ ?_; clear hK K) | (apply Exists.intro; refine ⟨fun _ => ?_, hK _ ?_⟩; ((go_at_call 130; exact (eqIntA2_same _ _ _))); clear hK K))); (refine walkQ_step (fun K hK => ?_); go_simp; (try (go_ints; try go_simp)); first | (refine hK _ ?_; clear hK K) | (apply Exists.intro; refine ⟨fun _ => ?_, hK _ ?_⟩; ((go_at_call 130; exact (eqIntA2_same _ _ _))); clear hK K) | (simp only [↓IntWalk.iteOmega]; (try go_simp); (try (go_ints; try go_simp)); first | (refine hK _ ?_; clear hK K) | (apply Exists.intro; refine ⟨fun _ => ?_, hK _ ?_⟩; ((go_at_call 130; exact (eqIntA2_same _ _ _))); clear hK K))); (refine walkQ_step (fun K hK => ?_); go_simp; (try (go_ints; try go_simp)); first | (refine hK _ ?_; clear hK K) | (apply Exists.intro; refine ⟨fun _ => ?_, hK _ ?_⟩; ((go_at_call 130; exact (eqIntA2_same _ _ _))); clear hK K) | (simp only [↓IntWalk.iteOmega]; (try go_simp); (try (go_ints; try go_simp)); first | (refine hK _ ?_; clear hK K) | (apply Exists.intro; refine ⟨fun _ => ?_, hK _ ?_⟩; ((go_at_call 130; exact (eqIntA2_same _ _ _))); clear hK K))); refine walkQ_nil ?_; clear hgr; intro w1 hE; have hc2 := hE.cells; have hf2 := hE.frees; have hz2 := hE.size
        replace hE : Ext wo w1 := ((Ext.refl wo).drew).trans hE
        go_wp2
        refine ⟨⟨j + 1, by omega, by go_num, (by (repeat' (first | (with_reducible exact Ext.refl _) | (with_reducible assumption) | (with_reducible refine Ext.alloc ?_ _) | (with_reducible refine Ext.drew ?_) | (with_reducible refine Ext.drewN ?_ _) | (with_reducible refine Ext.setCell ?_ ?_ _) | (with_reducible refine Ext.trans ?_ (by assumption)))) <;> (first | (with_reducible assumption) | omega | (simp; done) | (simp; omega)))⟩, by simp [intOf]; omega⟩
      · obtain rfl : j = n := by omega
        go_wp2
        go_returns
        exact ⟨rfl, (by (repeat' (first | (with_reducible exact Ext.refl _) | (with_reducible assumption) | (with_reducible refine Ext.alloc ?_ _) | (with_reducible refine Ext.drew ?_) | (with_reducible refine Ext.drewN ?_ _) | (with_reducible refine Ext.setCell ?_ ?_ _) | (with_reducible refine Ext.trans ?_ (by assumption)))) <;> (first | (with_reducible assumption) | omega | (simp; done) | (simp; omega)))⟩
theorem eqIntA2S_same (B C n : Nat) (g : Nat → Int) (v u : Value) (w : World) (hn : n < 1000) (h : w.ownsRow B 33 2 v n (Gl (n * 2) g)) (k : w.ownsRow C 33 2 u n (Gl (n * 2) g)) :
    Calls Try.prog 63 #[v, u] w fun e w' => e = .returned (.bool true) ∧ Ext w w' := eqIntA2S_big B C n g v u w (by omega) h k
theorem markIntA2S_own (B n k : Nat) (g : Nat → Int) (v : Value) (w : World) (hn : n < 1000) (hk : k < 1000) (h : w.ownsRow B 33 2 v n (Gl (n * 2) g)) :
    Calls Try.prog 64 #[v, .int .i64 (k : Int)] w fun e w' => e = .returned (.int .i64 ((k + n * 2 : Nat) : Int)) ∧ Below B w w' ∧ w'.ownsRow B 33 2 v n (Gl (n * 2) (fun i => ((k + i : Nat) : Int))) := by
  obtain ⟨ao, cap, rfl, ha⟩ := own_shape h
  rw [mk_0 (n * 2) k g] at h
  rw [← mk_all (n * 2) k g]
  have H := Lib.hid h
  clear h
  by_cases h0 : n = 0
  · subst h0
    clear ha
    go_enter Try.func64, Try.ntmps64
    go_wp2
    go_loopw [1, 5] (fun m i wr => m = .int .i64 (k : Int) ∧ i = .int .i64 0 ∧ wr = w) (fun _ _ _ => 0)
    case atStart => exact ⟨rfl, rfl, rfl⟩
    case round =>
      obtain ⟨rfl, rfl, rfl⟩ := hrel
      go_wp2
      go_returns
      exact ⟨by go_num, Below.refl _ _, H.out⟩
  · obtain ⟨a, rfl, hB, ha⟩ := ha (by omega)
    go_enter Try.func64, Try.ntmps64
    go_wp2
    go_loopw [1, 5] (fun m i wr => ∃ j : Nat, j ≤ n ∧ i = .int .i64 j ∧ m = .int .i64 ((k + j * 2 : Nat) : Int) ∧ Below B w wr ∧ wr.ownsRow B 33 2 (.slice (some ⟨a, 0, none⟩) n cap) n (Gl (n * 2) (mk' k (j * 2) g))) (fun _ i _ => n - (intOf i).toNat)
    case atStart => exact ⟨0, Nat.zero_le _, rfl, rfl, Below.refl _ _, H.out⟩
    case round =>
      obtain ⟨j, hj, rfl, rfl, hx, ho⟩ := hrel
      obtain ⟨wo, rfl⟩ : ∃ wo : World, wo = wr := ⟨_, rfl⟩
      have HO := Lib.hid ho
      clear ho
      by_cases hlt : j < n
      · go_wp2
        go_loopw [1, 6] (fun m i wr => ∃ c : Nat, c ≤ 2 ∧ i = .int .i64 c ∧ m = .int .i64 ((k + (j * 2 + c) : Nat) : Int) ∧ Below B w wr ∧ wr.ownsRow B 33 2 (.slice (some ⟨a, 0, none⟩) n cap) n (Gl (n * 2) (mk' k (j * 2 + c) g))) (fun _ i _ => 2 - (intOf i).toNat)
        case atStart => exact ⟨0, Nat.zero_le _, rfl, rfl, hx, HO.out⟩
        case round =>
          obtain ⟨c, hc, rfl, rfl, hx, ho⟩ := hrel
          obtain ⟨wi, rfl⟩ : ∃ wi : World, wi = wr := ⟨_, rfl⟩
          clear HO
          have HO := Lib.hid ho
          clear ho
          by_cases hlc : c < 2
          · have c1 := (HO.out.cellAt (j * 2 + c) (by omega)).trans (Gl_get (by omega))
            have f1 := HO.out.frozenAt (j * 2 + c)
            go_wp2
            refine ⟨⟨c + 1, by omega, by go_num, by go_num, hx.setCell hB _, ?_⟩, by simp [intOf]; omega⟩
            have := (HO.out.stored (j * 2 + c) (.int .i64 ((k : Int) + ((j * 2 + c : Nat) : Int)))).1
            rw [Gl_set, mk_step] at this
            rw [show j * 2 + (c + 1) = j * 2 + c + 1 from rfl]
            simpa using this
          · obtain rfl : c = 2 := by omega
            go_wp2
            (first | exact ⟨⟨j + 1, by omega, by go_num, by go_num, hx, by have := HO.out; rwa [show j * 2 + 2 = (j + 1) * 2 by omega] at this⟩, by simp [intOf]; omega⟩ | (refine ⟨?_, by simp [intOf]; omega⟩; (repeat apply Exists.intro); exact ⟨⟨j + 1, by omega, by go_num, by go_num, hx, by have := HO.out; rwa [show j * 2 + 2 = (j + 1) * 2 by omega] at this⟩, rfl⟩))
      · obtain rfl : j = n := by omega
        go_wp2
        go_returns
        exact ⟨by go_num, hx, HO.out⟩
theorem heldIntA2S_own (B n k : Nat) (v : Value) (w : World) (hn : n < 1000) (hk : k < 1000) (h : w.ownsRow B 33 2 v n (Gl (n * 2) (fun i => ((k + i : Nat) : Int)))) :
    Calls Try.prog 65 #[v, .int .i64 (k : Int)] w fun e w' => e = .returned (.int .i64 ((k + n * 2 : Nat) : Int)) ∧ Ext w w' := by
  obtain ⟨ao, cap, rfl, ha⟩ := own_shape h
  have H := Lib.hid h
  clear h
  by_cases h0 : n = 0
  · subst h0
    clear ha
    go_enter Try.func65, Try.ntmps65
    go_wp2
    go_loopw [1, 5] (fun m i wr => m = .int .i64 (k : Int) ∧ i = .int .i64 0 ∧ wr = w) (fun _ _ _ => 0)
    case atStart => exact ⟨rfl, rfl, rfl⟩
    case round =>
      obtain ⟨rfl, rfl, rfl⟩ := hrel
      go_wp2
      go_returns
      exact ⟨by go_num, (by (repeat' (first | (with_reducible exact Ext.refl _) | (with_reducible assumption) | (with_reducible refine Ext.alloc ?_ _) | (with_reducible refine Ext.drew ?_) | (with_reducible refine Ext.drewN ?_ _) | (with_reducible refine Ext.setCell ?_ ?_ _) | (with_reducible refine Ext.trans ?_ (by assumption)))) <;> (first | (with_reducible assumption) | omega | (simp; done) | (simp; omega)))⟩
  · obtain ⟨a, rfl, hB, ha⟩ := ha (by omega)
    go_enter Try.func65, Try.ntmps65
    go_wp2
    go_loopw [1, 5] (fun m i wr => ∃ j : Nat, j ≤ n ∧ i = .int .i64 j ∧ m = .int .i64 ((k + j * 2 : Nat) : Int) ∧ Ext w wr) (fun _ i _ => n - (intOf i).toNat)
    case atStart => exact ⟨0, Nat.zero_le _, rfl, rfl, (by (repeat' (first | (with_reducible exact Ext.refl _) | (with_reducible assumption) | (with_reducible refine Ext.alloc ?_ _) | (with_reducible refine Ext.drew ?_) | (with_reducible refine Ext.drewN ?_ _) | (with_reducible refine Ext.setCell ?_ ?_ _) | (with_reducible refine Ext.trans ?_ (by assumption)))) <;> (first | (with_reducible assumption) | omega | (simp; done) | (simp; omega)))⟩
    case round =>
      obtain ⟨j, hj, rfl, rfl, hx⟩ := hrel
      obtain ⟨wo, rfl⟩ : ∃ wo : World, wo = wr := ⟨_, rfl⟩
      by_cases hlt : j < n
      · go_wp2
        go_loopw [1, 6] (fun m i wr => ∃ c : Nat, c ≤ 2 ∧ i = .int .i64 c ∧ m = .int .i64 ((k + (j * 2 + c) : Nat) : Int) ∧ Ext w wr) (fun _ i _ => 2 - (intOf i).toNat)
        case atStart => exact ⟨0, Nat.zero_le _, rfl, rfl, (by (repeat' (first | (with_reducible exact Ext.refl _) | (with_reducible assumption) | (with_reducible refine Ext.alloc ?_ _) | (with_reducible refine Ext.drew ?_) | (with_reducible refine Ext.drewN ?_ _) | (with_reducible refine Ext.setCell ?_ ?_ _) | (with_reducible refine Ext.trans ?_ (by assumption)))) <;> (first | (with_reducible assumption) | omega | (simp; done) | (simp; omega)))⟩
        case round =>
          obtain ⟨c, hc, rfl, rfl, hx⟩ := hrel
          obtain ⟨wi, rfl⟩ : ∃ wi : World, wi = wr := ⟨_, rfl⟩
          by_cases hlc : c < 2
          · have c1 := ((own_ext H.out hx).cellAt (j * 2 + c) (by omega)).trans (Gl_get (by omega))
            go_wp2
            (first | exact ⟨⟨c + 1, by omega, by go_num, by go_num, (by (repeat' (first | (with_reducible exact Ext.refl _) | (with_reducible assumption) | (with_reducible refine Ext.alloc ?_ _) | (with_reducible refine Ext.drew ?_) | (with_reducible refine Ext.drewN ?_ _) | (with_reducible refine Ext.setCell ?_ ?_ _) | (with_reducible refine Ext.trans ?_ (by assumption)))) <;> (first | (with_reducible assumption) | omega | (simp; done) | (simp; omega)))⟩, by simp [intOf]; omega⟩ | (refine ⟨?_, by simp [intOf]; omega⟩; (repeat apply Exists.intro); exact ⟨⟨c + 1, by omega, by go_num, by go_num, (by (repeat' (first | (with_reducible exact Ext.refl _) | (with_reducible assumption) | (with_reducible refine Ext.alloc ?_ _) | (with_reducible refine Ext.drew ?_) | (with_reducible refine Ext.drewN ?_ _) | (with_reducible refine Ext.setCell ?_ ?_ _) | (with_reducible refine Ext.trans ?_ (by assumption)))) <;> (first | (with_reducible assumption) | omega | (simp; done) | (simp; omega)))⟩, rfl⟩))
          · obtain rfl : c = 2 := by omega
            go_wp2
            (first | exact ⟨⟨j + 1, by omega, by go_num, by go_num, (by (repeat' (first | (with_reducible exact Ext.refl _) | (with_reducible assumption) | (with_reducible refine Ext.alloc ?_ _) | (with_reducible refine Ext.drew ?_) | (with_reducible refine Ext.drewN ?_ _) | (with_reducible refine Ext.setCell ?_ ?_ _) | (with_reducible refine Ext.trans ?_ (by assumption)))) <;> (first | (with_reducible assumption) | omega | (simp; done) | (simp; omega)))⟩, by simp [intOf]; omega⟩ | (refine ⟨?_, by simp [intOf]; omega⟩; (repeat apply Exists.intro); exact ⟨⟨j + 1, by omega, by go_num, by go_num, (by (repeat' (first | (with_reducible exact Ext.refl _) | (with_reducible assumption) | (with_reducible refine Ext.alloc ?_ _) | (with_reducible refine Ext.drew ?_) | (with_reducible refine Ext.drewN ?_ _) | (with_reducible refine Ext.setCell ?_ ?_ _) | (with_reducible refine Ext.trans ?_ (by assumption)))) <;> (first | (with_reducible assumption) | omega | (simp; done) | (simp; omega)))⟩, rfl⟩))
      · obtain rfl : j = n := by omega
        go_wp2
        go_returns
        exact ⟨by go_num, (by (repeat' (first | (with_reducible exact Ext.refl _) | (with_reducible assumption) | (with_reducible refine Ext.alloc ?_ _) | (with_reducible refine Ext.drew ?_) | (with_reducible refine Ext.drewN ?_ _) | (with_reducible refine Ext.setCell ?_ ?_ _) | (with_reducible refine Ext.trans ?_ (by assumption)))) <;> (first | (with_reducible assumption) | omega | (simp; done) | (simp; omega)))⟩
theorem fl_Gl (p : Nat → Bool) (k : Nat) : ∃ g, (fl p k).map (fun d : Nat => Value.int .i64 (d : Int)) = Gl (fl p k).length g := by
  obtain ⟨g, hg⟩ := Gl_of (xs := (fl p k).map (fun d : Nat => Value.int .i64 (d : Int))) (fun u hu => by
    obtain ⟨d, _, rfl⟩ := List.mem_map.1 hu
    exact ⟨_, rfl⟩)
  exact ⟨g, by rw [List.length_map] at hg; exact hg⟩
theorem nil_Gl (g : Nat → Int) : [] = Gl 0 g := rfl
/-- marks are laid into a row of the call's own: what was there when C blocks were stays -/
theorem ext_below {a t w' : World} {C : Nat} (hx : Ext a t) (hb : Below C t w') (hC : a.heap.size ≤ C) : Ext a w' := .of (hx.below.trans (hb.mono hC))
theorem markIntA2S_1 (B n : Nat) (g : Nat → Int) (v : Value) (w : World) (hn : n < 1000) (h : w.ownsRow B 33 2 v n (Gl (n * 2) g)) :
    Calls Try.prog 64 #[v, .int .i64 1] w fun e w' => e = .returned (.int .i64 ((1 + n * 2 : Nat) : Int)) ∧ Below B w w' ∧ w'.ownsRow B 33 2 v n (Gl (n * 2) (fun i => ((1 + i : Nat) : Int))) := markIntA2S_own B n 1 g v w hn (by omega) h
theorem heldIntA2S_1 (B n : Nat) (v : Value) (w : World) (hn : n < 1000) (h : w.ownsRow B 33 2 v n (Gl (n * 2) (fun i => ((1 + i : Nat) : Int)))) :
    Calls Try.prog 65 #[v, .int .i64 1] w fun e w' => e = .returned (.int .i64 ((1 + n * 2 : Nat) : Int)) ∧ Ext w w' := heldIntA2S_own B n 1 v w hn (by omega) h
end Go.Proofs.Ytlifhoajamnehaa
