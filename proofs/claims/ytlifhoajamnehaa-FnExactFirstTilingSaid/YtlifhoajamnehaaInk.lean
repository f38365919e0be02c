/- Ink: contracts of functions, and lemmas, for this seat. Conditions: as each states. -/
import Derived.Test.YtlifhoajamnehaaOpens
import Derived.Test.YtlifhoajamnehaaPerm
set_option linter.unusedVariables false
set_option maxRecDepth 100000
set_option maxHeartbeats 1000000
namespace Go.Proofs.Ytlifhoajamnehaa
open Go Go.RowKit Instr
theorem l6Ink_n (n : Nat) (L : List Nat) (hG : ∀ (i k : Nat), L[i]? = some k → k < 36) (hlen : L.length < 2000000) (B : Nat) (v : Value) (w : World) (ho : w.ownsRow B 33 2 v L.length (pxy L)) :
    Calls Try.prog 163 #[(.agg #[.int .i64 (rw n 0), .int .i64 (rw n 1), .int .i64 (rw n 2), .int .i64 (rw n 3), .int .i64 (rw n 4), .int .i64 (rw n 5)]), v] w fun e w' => e = .returned (.agg #[.int .i64 (rw (inkL n L) 0), .int .i64 (rw (inkL n L) 1), .int .i64 (rw (inkL n L) 2), .int .i64 (rw (inkL n L) 3), .int .i64 (rw (inkL n L) 4), .int .i64 (rw (inkL n L) 5)]) ∧ Ext w w' := by
  obtain ⟨ao, cap, rfl, hsh⟩ := own_shape ho
  have HO := Lib.hid ho
  have HG := Lib.hid hG
  clear ho hG
  go_enter Try.func163, Try.ntmps163
  go_wp2
  go_loopw [6] (fun i wr => ∃ j : Nat, j ≤ L.length ∧ i = .int .i64 j ∧ Ext w wr ∧ Arr wr w.heap.size (rw n) ∧ Arr wr (w.heap.size + 1) (fun _ => 0) ∧ Arr wr (w.heap.size + 2) (rw (inkL n (L.take j))) ∧ w.heap.size + 2 < wr.heap.size) (fun i _ => L.length - (intOf i).toNat)
  case atStart =>
    refine ⟨0, Nat.zero_le _, rfl, (by (repeat' (first | (with_reducible exact Ext.refl _) | (with_reducible assumption) | (with_reducible refine Ext.alloc ?_ _) | (with_reducible refine Ext.drew ?_) | (with_reducible refine Ext.drewN ?_ _) | (with_reducible refine Ext.setCell ?_ ?_ _) | (with_reducible refine Ext.trans ?_ (by assumption)))) <;> (first | (with_reducible assumption) | omega | (simp; done) | (simp; omega))), ?_, ?_, ?_, by simp⟩
    · exact ((Arr.new w (rw n) _ rfl).alloc _ (by simp)).alloc _ (by first | (simp; done) | (simp; omega))
    · exact (Arr.new0 _ _ (by simp)).alloc _ (by simp)
    · exact (Arr.new0 _ _ (by simp)).congr fun j _ => (show (0 : Int) = rw 0 j by rw [rw_nat]; unfold rowN; rw [Nat.zero_div]; rfl)
  case round =>
    obtain ⟨j, hj, rfl, hx, ha, hr, ht, hz⟩ := hrel
    obtain ⟨wo, rfl⟩ : ∃ wo : World, wo = wr := ⟨_, rfl⟩
    have HA := Lib.hid ha
    have HR := Lib.hid hr
    have HT := Lib.hid ht
    clear ha hr ht
    have hsz := hx.size
    have za : w.heap.size < wo.heap.size := by omega
    have zr : w.heap.size + 1 < wo.heap.size := by omega
    by_cases hlt : j < L.length
    · obtain ⟨vb, rfl, _, hvb⟩ := hsh (by omega)
      obtain ⟨k, hk⟩ : ∃ k, L[j]? = some k := ⟨L[j], List.getElem?_eq_getElem hlt⟩
      have hk36 := HG.out j k hk
      have p1 := ((own_ext HO.out hx).cellAt (j * 2) (by omega)).trans (pxy_get L j k hk).1
      have p2 := ((own_ext HO.out hx).cellAt (j * 2 + 1) (by omega)).trans (pxy_get L j k hk).2
      have zv : vb < wo.heap.size := by omega
      obtain ⟨⟨c0, c1, c2, c3, c4, c5⟩, _⟩ := HA.out.all
      obtain ⟨⟨t0, t1, t2, t3, t4, t5⟩, _⟩ := HT.out.all
      have H1 := Lib.hid (fun w => l2At_n n (k % 6) (k / 6) (by omega) (by omega) w)
      have H2 := Lib.hid (fun w => l2Or_n (inkL n (L.take j)) (sh n (k % 6) (k / 6)) w)
      have HS := Lib.hid (inkL_step n L j k hk)
      rw [← HS.out] at H2
      clear hk
      generalize k % 6 = kx at *
      generalize k / 6 = ky at *
      skip
      go_wp2
      refine wp_calm 8 0 (fun _ => (#[], 0)) (by kernel_rfl) (by kernel_rfl) ?_; simp only [List.take_succ_cons, List.take_zero, List.drop_succ_cons, List.drop_zero]; intro hgr; (refine walkQ_step (fun K hK => ?_); go_simp; (try (go_ints; try go_simp)); first | (refine hK _ ?_; clear hK K) | (apply Exists.intro; refine ⟨fun _ => ?_, hK _ ?_⟩; (first | (go_at_call 154; exact (H1.out _)) | (go_at_call 137; exact (H2.out _))); clear hK K) | (simp only [↓IntWalk.iteOmega]; (try go_simp); (try (go_ints; try go_simp)); first | (refine hK _ ?_; clear hK K) | (apply Exists.intro; refine ⟨fun _ => ?_, hK _ ?_⟩; (first | (go_at_call 154; exact (H1.out _)) | (go_at_call 137; exact (H2.out _))); clear hK K))); (refine walkQ_step (fun K hK => ?_); go_simp; (try (go_ints; try go_simp)); first | (refine hK _ ?_; clear hK K) | (apply Exists.intro; refine ⟨fun _ => ?_, hK _ ?_⟩; (first | (go_at_call 154; exact (H1.out _)) | (go_at_call 137; exact (H2.out _))); clear hK K) | (simp only [↓IntWalk.iteOmega]; (try go_simp); (try (go_ints; try go_simp)); first | (refine hK _ ?_; clear hK K) | (apply Exists.intro; refine ⟨fun _ => ?_, hK _ ?_⟩; (first | (go_at_call 154; exact (H1.out _)) | (go_at_call 137; exact (H2.out _))); clear hK K))); (refine walkQ_step (fun K hK => ?_); go_simp; (try (go_ints; try go_simp)); first | (refine hK _ ?_; clear hK K) | (apply Exists.intro; refine ⟨fun _ => ?_, hK _ ?_⟩; (first | (go_at_call 154; exact (H1.out _)) | (go_at_call 137; exact (H2.out _))); clear hK K) | (simp only [↓IntWalk.iteOmega]; (try go_simp); (try (go_ints; try go_simp)); first | (refine hK _ ?_; clear hK K) | (apply Exists.intro; refine ⟨fun _ => ?_, hK _ ?_⟩; (first | (go_at_call 154; exact (H1.out _)) | (go_at_call 137; exact (H2.out _))); clear hK K))); (refine walkQ_step (fun K hK => ?_); go_simp; (try (go_ints; try go_simp)); first | (refine hK _ ?_; clear hK K) | (apply Exists.intro; refine ⟨fun _ => ?_, hK _ ?_⟩; (first | (go_at_call 154; exact (H1.out _)) | (go_at_call 137; exact (H2.out _))); clear hK K) | (simp only [↓IntWalk.iteOmega]; (try go_simp); (try (go_ints; try go_simp)); first | (refine hK _ ?_; clear hK K) | (apply Exists.intro; refine ⟨fun _ => ?_, hK _ ?_⟩; (first | (go_at_call 154; exact (H1.out _)) | (go_at_call 137; exact (H2.out _))); clear hK K))); (refine walkQ_step (fun K hK => ?_); go_simp; (try (go_ints; try go_simp)); first | (refine hK _ ?_; clear hK K) | (apply Exists.intro; refine ⟨fun _ => ?_, hK _ ?_⟩; (first | (go_at_call 154; exact (H1.out _)) | (go_at_call 137; exact (H2.out _))); clear hK K) | (simp only [↓IntWalk.iteOmega]; (try go_simp); (try (go_ints; try go_simp)); first | (refine hK _ ?_; clear hK K) | (apply Exists.intro; refine ⟨fun _ => ?_, hK _ ?_⟩; (first | (go_at_call 154; exact (H1.out _)) | (go_at_call 137; exact (H2.out _))); clear hK K))); (refine walkQ_step (fun K hK => ?_); go_simp; (try (go_ints; try go_simp)); first | (refine hK _ ?_; clear hK K) | (apply Exists.intro; refine ⟨fun _ => ?_, hK _ ?_⟩; (first | (go_at_call 154; exact (H1.out _)) | (go_at_call 137; exact (H2.out _))); clear hK K) | (simp only [↓IntWalk.iteOmega]; (try go_simp); (try (go_ints; try go_simp)); first | (refine hK _ ?_; clear hK K) | (apply Exists.intro; refine ⟨fun _ => ?_, hK _ ?_⟩; (first | (go_at_call 154; exact (H1.out _)) | (go_at_call 137; exact (H2.out _))); clear hK K))); (refine walkQ_step (fun K hK => ?_); go_simp; (try (go_ints; try go_simp)); first | (refine hK _ ?_; clear hK K) | (apply Exists.intro; refine ⟨fun _ => ?_, hK _ ?_⟩; (first | (go_at_call 154; exact (H1.out _)) | (go_at_call 137; exact (H2.out _))); clear hK K) | (simp only [↓IntWalk.iteOmega]; (try go_simp); (try (go_ints; try go_simp)); first | (refine hK _ ?_; clear hK K) | (apply Exists.intro; refine ⟨fun _ => ?_, hK _ ?_⟩; (first | (go_at_call 154; exact (H1.out _)) | (go_at_call 137; exact (H2.out _))); clear hK K))); (refine walkQ_step (fun K hK => ?_); go_simp; (try (go_ints; try go_simp)); first | (refine hK _ ?_; clear hK K) | (apply Exists.intro; refine ⟨fun _ => ?_, hK _ ?_⟩; (first | (go_at_call 154; exact (H1.out _)) | (go_at_call 137; exact (H2.out _))); clear hK K) | (simp only [↓IntWalk.iteOmega]; (try go_simp); (try (go_ints; try go_simp)); first | (refine hK _ ?_; clear hK K) | (apply Exists.intro; refine ⟨fun _ => ?_, hK _ ?_⟩; (first | (go_at_call 154; exact (H1.out _)) | (go_at_call 137; exact (H2.out _))); clear hK K))); refine walkQ_nil ?_; clear hgr; refine walkF_nil ?_; intro w1 hE _; have hc2 := hE.cells; have hf2 := hE.frees; have hz2 := hE.size
      replace hE : Ext wo w1 := ((Ext.refl wo).drew).trans hE
      have hs := hE.size
      have HT1 := Lib.hid (HT.out.ext hE hz)
      obtain ⟨⟨u0, u1, u2, u3, u4, u5⟩, g0, g1, g2, g3, g4, g5⟩ := HT1.out.all
      go_wp2
      refine ⟨⟨j + 1, by omega, by go_num, (by (repeat' (first | (with_reducible exact Ext.refl _) | (with_reducible assumption) | (with_reducible refine Ext.alloc ?_ _) | (with_reducible refine Ext.drew ?_) | (with_reducible refine Ext.drewN ?_ _) | (with_reducible refine Ext.setCell ?_ ?_ _) | (with_reducible refine Ext.trans ?_ (by assumption)))) <;> (first | (with_reducible assumption) | omega | (simp; done) | (simp; omega))), ?_, ?_, HT1.out.six _, by simp; omega⟩, by simp [intOf]; omega⟩
      · exact ((((((HA.out.ext hE za).far (by dsimp only; omega) _).far (by dsimp only; omega) _).far (by dsimp only; omega) _).far (by dsimp only; omega) _).far (by dsimp only; omega) _).far (by dsimp only; omega) _
      · exact ((((((HR.out.ext hE zr).far (by dsimp only; omega) _).far (by dsimp only; omega) _).far (by dsimp only; omega) _).far (by dsimp only; omega) _).far (by dsimp only; omega) _).far (by dsimp only; omega) _
    · obtain rfl : j = L.length := by omega
      rw [inkL_all] at HT
      obtain ⟨⟨c0, c1, c2, c3, c4, c5⟩, _⟩ := HT.out.all
      obtain ⟨⟨d0, d1, d2, d3, d4, d5⟩, f0, f1, f2, f3, f4, f5⟩ := HR.out.all
      go_wp2
      exact bodyPost_ret (ret_cell rfl rfl (load_sheet (HR.out.six (rw (inkL n L))))) rfl ⟨rfl, (by (repeat' (first | (with_reducible exact Ext.refl _) | (with_reducible assumption) | (with_reducible refine Ext.alloc ?_ _) | (with_reducible refine Ext.drew ?_) | (with_reducible refine Ext.drewN ?_ _) | (with_reducible refine Ext.setCell ?_ ?_ _) | (with_reducible refine Ext.trans ?_ (by assumption)))) <;> (first | (with_reducible assumption) | omega | (simp; done) | (simp; omega)))⟩
end Go.Proofs.Ytlifhoajamnehaa
