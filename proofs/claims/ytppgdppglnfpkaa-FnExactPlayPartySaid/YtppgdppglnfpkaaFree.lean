/- Free: contracts of functions, and lemmas, for this seat. Conditions: as each states. -/
import Derived.Test.YtppgdppglnfpkaaOpens
import Derived.Test.YtppgdppglnfpkaaWins
set_option linter.unusedVariables false
set_option maxRecDepth 100000
set_option maxHeartbeats 1000000
namespace Go.Proofs.Ytppgdppglnfpkaa
open Go Go.RowKit Instr
theorem free1_any (n m k : Nat) (hn : n < 68719476736) (hm : m < 68719476736) (hk : k < 36) (x y : Nat) (w : World) (hx : x < w.heap.size) (hy : y < w.heap.size) (h1 : w.cell? ⟨x, 0, none⟩ = some (.int .u64 (m : Int))) (h2 : w.cell? ⟨y, 0, none⟩ = some (.int .u64 (n : Int))) :
    Calls Try.prog 149 #[.int .i64 (k : Int), .pointer (some ⟨x, 0, none⟩), .pointer (some ⟨y, 0, none⟩)] w fun e w' => e = .returned (.bool (frP n m k)) ∧ Ext w w' := by
  have HP := Lib.hid (fun w => pressed_any m k hm hk w)
  unfold frP
  have hz := sh_lt m (k % 6) (k / 6)
  generalize sh m (k % 6) (k / 6) = z at *
  have e64 := and64 hz hn
  generalize z &&& n = q at *
  skip
  go_enter Try.func149, Try.ntmps149
  go_wp2
  refine wp_calm0 (by kernel_rfl) (by kernel_rfl) ?_; intro hgr; (refine walkQ_step (fun K hK => ?_); go_simp; (try (go_ints; try go_simp)); first | (refine hK _ ?_; clear hK K) | (apply Exists.intro; refine ⟨fun _ => ?_, hK _ ?_⟩; ((go_at_call 98; exact (HP.out _))); clear hK K) | (simp only [↓IntWalk.iteOmega]; (try go_simp); (try (go_ints; try go_simp)); first | (refine hK _ ?_; clear hK K) | (apply Exists.intro; refine ⟨fun _ => ?_, hK _ ?_⟩; ((go_at_call 98; exact (HP.out _))); clear hK K))); (refine walkQ_step (fun K hK => ?_); go_simp; (try (go_ints; try go_simp)); first | (refine hK _ ?_; clear hK K) | (apply Exists.intro; refine ⟨fun _ => ?_, hK _ ?_⟩; ((go_at_call 98; exact (HP.out _))); clear hK K) | (simp only [↓IntWalk.iteOmega]; (try go_simp); (try (go_ints; try go_simp)); first | (refine hK _ ?_; clear hK K) | (apply Exists.intro; refine ⟨fun _ => ?_, hK _ ?_⟩; ((go_at_call 98; exact (HP.out _))); clear hK K))); (refine walkQ_step (fun K hK => ?_); go_simp; (try (go_ints; try go_simp)); first | (refine hK _ ?_; clear hK K) | (apply Exists.intro; refine ⟨fun _ => ?_, hK _ ?_⟩; ((go_at_call 98; exact (HP.out _))); clear hK K) | (simp only [↓IntWalk.iteOmega]; (try go_simp); (try (go_ints; try go_simp)); first | (refine hK _ ?_; clear hK K) | (apply Exists.intro; refine ⟨fun _ => ?_, hK _ ?_⟩; ((go_at_call 98; exact (HP.out _))); clear hK K))); (refine walkQ_step (fun K hK => ?_); go_simp; (try (go_ints; try go_simp)); first | (refine hK _ ?_; clear hK K) | (apply Exists.intro; refine ⟨fun _ => ?_, hK _ ?_⟩; ((go_at_call 98; exact (HP.out _))); clear hK K) | (simp only [↓IntWalk.iteOmega]; (try go_simp); (try (go_ints; try go_simp)); first | (refine hK _ ?_; clear hK K) | (apply Exists.intro; refine ⟨fun _ => ?_, hK _ ?_⟩; ((go_at_call 98; exact (HP.out _))); clear hK K))); (refine walkQ_step (fun K hK => ?_); go_simp; (try (go_ints; try go_simp)); first | (refine hK _ ?_; clear hK K) | (apply Exists.intro; refine ⟨fun _ => ?_, hK _ ?_⟩; ((go_at_call 98; exact (HP.out _))); clear hK K) | (simp only [↓IntWalk.iteOmega]; (try go_simp); (try (go_ints; try go_simp)); first | (refine hK _ ?_; clear hK K) | (apply Exists.intro; refine ⟨fun _ => ?_, hK _ ?_⟩; ((go_at_call 98; exact (HP.out _))); clear hK K))); (refine walkQ_step (fun K hK => ?_); go_simp; (try (go_ints; try go_simp)); first | (refine hK _ ?_; clear hK K) | (apply Exists.intro; refine ⟨fun _ => ?_, hK _ ?_⟩; ((go_at_call 98; exact (HP.out _))); clear hK K) | (simp only [↓IntWalk.iteOmega]; (try go_simp); (try (go_ints; try go_simp)); first | (refine hK _ ?_; clear hK K) | (apply Exists.intro; refine ⟨fun _ => ?_, hK _ ?_⟩; ((go_at_call 98; exact (HP.out _))); clear hK K))); (refine walkQ_step (fun K hK => ?_); go_simp; (try (go_ints; try go_simp)); first | (refine hK _ ?_; clear hK K) | (apply Exists.intro; refine ⟨fun _ => ?_, hK _ ?_⟩; ((go_at_call 98; exact (HP.out _))); clear hK K) | (simp only [↓IntWalk.iteOmega]; (try go_simp); (try (go_ints; try go_simp)); first | (refine hK _ ?_; clear hK K) | (apply Exists.intro; refine ⟨fun _ => ?_, hK _ ?_⟩; ((go_at_call 98; exact (HP.out _))); clear hK K))); refine walkQ_nil ?_; clear hgr; intro w1 hE; have hc2 := hE.cells; have hf2 := hE.frees; have hz2 := hE.size
  replace hE : Ext w w1 := ((Ext.refl w).drew).trans hE
  go_wp2
  go_returns
  exact ⟨ret_bool (by rw [Bool.eq_iff_iff]; simp; try omega), (by (repeat' (first | (with_reducible exact Ext.refl _) | (with_reducible assumption) | (with_reducible refine Ext.alloc ?_ _) | (with_reducible refine Ext.drew ?_) | (with_reducible refine Ext.drewN ?_ _) | (with_reducible refine Ext.setCell ?_ ?_ _) | (with_reducible refine Ext.trans ?_ (by assumption)))) <;> (first | (with_reducible assumption) | omega | (simp; done) | (simp; omega)))⟩
theorem free_n (n m : Nat) (hn : n < 68719476736) (hm : m < 68719476736) (w : World) : Calls Try.prog 94 #[.int .u64 (n : Int), .int .u64 (m : Int)] w fun e w' => e = .returned (.int .u64 (mkN (frP n m) 36 : Nat)) ∧ Ext w w' := by
  have HW := Lib.hid (fun (x y : Nat) (w : World) (hx : x < w.heap.size) (hy : y < w.heap.size) (h1 : w.cell? ⟨x, 0, none⟩ = some (.int .u64 (m : Int))) (h2 : w.cell? ⟨y, 0, none⟩ = some (.int .u64 (n : Int))) =>
    where_any 149 #[.pointer (some ⟨x, 0, none⟩), .pointer (some ⟨y, 0, none⟩)] (frP n m) w Try.call149 fun k hk w' hE =>
      free1_any n m k hn hm hk x y w' (Nat.lt_of_lt_of_le hx hE.size) (Nat.lt_of_lt_of_le hy hE.size) ((hE.cells _ _ hx).trans h1) ((hE.cells _ _ hy).trans h2))
  generalize mkN (frP n m) 36 = R at *
  go_enter Try.func94, Try.ntmps94
  go_wp2_with (go_at_call 145; refine (HW.out (w.heap.size + 1) w.heap.size _ (by simp) (by simp; omega) (by go_simp) (by go_simp)).mono ?_; rintro e w1 ⟨rfl, hE⟩)
  go_returns
  exact ⟨rfl, (by (repeat' (first | (with_reducible exact Ext.refl _) | (with_reducible assumption) | (with_reducible refine Ext.alloc ?_ _) | (with_reducible refine Ext.drew ?_) | (with_reducible refine Ext.drewN ?_ _) | (with_reducible refine Ext.setCell ?_ ?_ _) | (with_reducible refine Ext.trans ?_ (by assumption)))) <;> (first | (with_reducible assumption) | omega | (simp; done) | (simp; omega)))⟩
end Go.Proofs.Ytppgdppglnfpkaa
