/- CovS: contracts of functions, and lemmas, for this seat. Conditions: as each states. -/
import Derived.Test.YtadnfocbfabjnaaCovL
import Derived.Test.YtadnfocbfabjnaaLLs
import Derived.Test.YtadnfocbfabjnaaOpens
import Derived.Test.YtadnfocbfabjnaaSmall
import Derived.Test.YtadnfocbfabjnaaNeed3
import Derived.Test.YtadnfocbfabjnaaCovF
import Derived.Laws.AppendOwnNone
set_option linter.unusedVariables false
set_option maxRecDepth 100000
set_option maxHeartbeats 4000000
namespace Go.Proofs.Ytadnfocbfabjnaa
open Go Go.RowKit Instr
theorem arr_grow {w w' : World} {b : Nat} {g : Nat → Int} {row : Option Nat} (h : Arr w b g) (hg : w.grownBy w' row) (hb : b < w.heap.size) (hne : some b ≠ row) : Arr w' b g := fun j hj =>
  ⟨(World.cell?_of_block (a := ⟨b, j, none⟩) (hg.block b hb hne)).trans (h j hj).1, (World.frozen?_of_block (a := ⟨b, j, none⟩) (hg.block b hb hne)).trans (h j hj).2⟩
theorem l6Covers_n (n t : Nat) (hn : n < 68719476736) (ht : t < 68719476736) : ∀ (m : Nat) (O : List Nat), m ≤ 36 → (∀ (i k : Nat), O[i]? = some k → k < 36) → O.length ≤ 36 → ∀ (b : Nat), b < 68719476736 → ∀ (D : List Nat), D.length + m ≤ 36 → ∀ (v u : Value) (xm : Int), xm = (m : Int) → ∀ (w : World), RawL w v O → Inn w u D →
    Calls Try.prog 224 #[(.agg #[.int .i64 (rw n 0), .int .i64 (rw n 1), .int .i64 (rw n 2), .int .i64 (rw n 3), .int .i64 (rw n 4), .int .i64 (rw n 5)]), (.agg #[.int .i64 (rw t 0), .int .i64 (rw t 1), .int .i64 (rw t 2), .int .i64 (rw t 3), .int .i64 (rw t 4), .int .i64 (rw t 5)]), v, u, (.agg #[.int .i64 (rw b 0), .int .i64 (rw b 1), .int .i64 (rw b 2), .int .i64 (rw b 3), .int .i64 (rw b 4), .int .i64 (rw b 5)]), .int .i64 xm] w fun e w' => ∃ r, e = .returned r ∧ Ext w w' ∧ LLs w' w.heap.size r (kD (pr6 n) t O m b D)
  | 0, O, hm, hG, hlen, b, hb, D, hD, v, u, xm, hxm, w, hr, hu => by
    subst hxm
    obtain ⟨i0, hi, iz0, iz1, iz2⟩ := info_parts info_two
    obtain ⟨s0, si, sz0, sz1, sz2⟩ := info_parts info_sl
    obtain ⟨ao, cap, rfl, hcap, hsh⟩ := hr
    have HIN := Lib.hid hu
    obtain ⟨ub, uo, uc, ucur, rfl, huc, hub, _⟩ := hu
    have hul := row_lt hub
    clear hG hsh hub
    rw [kD_0]
    by_cases hbt : b = t
    · subst hbt
      rw [if_pos rfl]
      have ez := eql_same b
      skip
      go_enter Try.func224, Try.ntmps224
      have HC1 := Lib.hid (inn_cells HIN.out).2
      have HC2 := Lib.hid (pxy_length D)
      have HC3 := Lib.hid (pxy_ones D)
      have HOE := Lib.hid (own_empty (((w.alloc (.cells #[.int .i64 (rw n 0), .int .i64 (rw n 1), .int .i64 (rw n 2), .int .i64 (rw n 3), .int .i64 (rw n 4), .int .i64 (rw n 5)] 26)).alloc (.cells #[.int .i64 (rw b 0), .int .i64 (rw b 1), .int .i64 (rw b 2), .int .i64 (rw b 3), .int .i64 (rw b 4), .int .i64 (rw b 5)] 26)).alloc (.cells #[.int .i64 (rw b 0), .int .i64 (rw b 1), .int .i64 (rw b 2), .int .i64 (rw b 3), .int .i64 (rw b 4), .int .i64 (rw b 5)] 26)) 28 1 w.heap.size (by simp; omega) (b := w.heap.size + 1 + 1 + 1) (by simp))
      go_wp2_with (first | (at_builtin; refine wpList_append_new (by rfl) _ _ 28 (by rfl) 33 i0 (.agg #[.int .i64 0, .int .i64 0]) 2 16 Try.underlying28 hi iz0 iz1 iz2 (by rfl) (by decide) (w.heap.size + 1 + 1 + 1 + 1) (by rfl) (own_empty _ 33 2 _ (by simp) (by simp)) ⟨ub, uo, none⟩ D.length uc (by rfl) (pxy D) (fun j u h => by rw [Go.WideShapes.add_plain]; have h1 := HC1.out j u h; rw [Go.WideShapes.add_plain] at h1; exact ((((((((Ext.refl w).alloc _).alloc _).alloc _).alloc _).alloc _)).cells ub _ hul).trans h1) HC2.out HC3.out (by unfold maxLen; omega) (by omega) w.heap.size (by omega) ?_; intro b1 c1 w1 hE1 hown1; have HI1 := Lib.hid (show OwnI w.heap.size _ _ D from ⟨⟨_, _, rfl⟩, hown1⟩); have HO2 := Lib.hid (own_ext (own_ext HOE.out ((Ext.refl _).alloc (.cells #[] 33))) hE1); have HX1 := Lib.hid ((by (repeat' (first | (with_reducible exact Ext.refl _) | (with_reducible assumption) | (with_reducible refine Ext.alloc ?_ _) | (with_reducible refine Ext.drew ?_) | (with_reducible refine Ext.drewN ?_ _) | (with_reducible refine Ext.setCell ?_ ?_ _) | (with_reducible refine Ext.trans ?_ (by assumption)))) <;> (first | (with_reducible assumption) | omega | (simp; done) | (simp; omega))) : Ext w w1); obtain ⟨wp, rfl⟩ : ∃ x, x = w1 := ⟨_, rfl⟩) | (at_builtin; refine wpList_append_own _ (by rfl) _ _ 153 (by rfl) w.heap.size 28 s0 (.slice none 0 0) 1 24 Try.underlying153 si sz0 sz1 sz2 (by rfl) (by decide) _ _ _ (by rfl) (HO2.out.alloc _) ⟨_, 0, none⟩ 1 1 [.slice (some ⟨b1, 0, none⟩) D.length c1] (by rfl) (by rfl) one_cell (by simp [Value.oneCell']) (by unfold maxLen; omega) (by omega) (by have := HX1.out.size; simp; omega) ?_; intro v1 w2 hown hgrow _))
      have HP := Lib.hid (own_push HX1.out (Nat.le_refl _) HO2.out hgrow).1
      have HIn := Lib.hid (owni_grown (owni_ext HI1.out ((Ext.refl wp).alloc (.cells #[.slice (some ⟨b1, 0, none⟩) D.length c1] 28))) (HO2.out.alloc _) hgrow)
      go_returns
      exact ⟨_, rfl, HP.out, [.slice (some ⟨b1, 0, none⟩) D.length c1], hown, llv_one HIn.out⟩
    · rw [if_neg hbt]
      have ez := eql_ne hb ht hbt
      skip
      go_enter Try.func224, Try.ntmps224
      go_wp2
      go_returns
      exact ⟨_, rfl, (by (repeat' (first | (with_reducible exact Ext.refl _) | (with_reducible assumption) | (with_reducible refine Ext.alloc ?_ _) | (with_reducible refine Ext.drew ?_) | (with_reducible refine Ext.drewN ?_ _) | (with_reducible refine Ext.setCell ?_ ?_ _) | (with_reducible refine Ext.trans ?_ (by assumption)))) <;> (first | (with_reducible assumption) | omega | (simp; done) | (simp; omega))), [], own_empty _ 28 1 _ (by simp; omega) (by simp), llv_nil _ _⟩
  | m + 1, O, hm, hG, hlen, b, hb, D, hD, v, u, xm, hxm, w, hr, hu => by
    have hx0 : (xm == 0) = false := by rw [beq_eq_false_iff_ne]; omega
    have HXM := Lib.hid hxm
    have hxr : 1 ≤ xm ∧ xm ≤ 36 := by omega
    have IH := Lib.hid (l6Covers_n n t hn ht m)
    have hf := pr6_lt n
    obtain ⟨i0, hi, iz0, iz1, iz2⟩ := info_parts info_two
    obtain ⟨s0, si, sz0, sz1, sz2⟩ := info_parts info_sl
    obtain ⟨ao, cap, rfl, hcap, hsh⟩ := hr
    have HIN := Lib.hid hu
    obtain ⟨ub, uo, uc, ucur, rfl, huc, hub, _⟩ := hu
    have hul := row_lt hub
    have HS := Lib.hid hsh
    have HG := Lib.hid hG
    clear hG hsh hub
    have HCN := Lib.hid (fun w => l2Count_n n w)
    have HCT := Lib.hid (fun w => l2Count_n t w)
    have HCB := Lib.hid (fun w => l2Count_n b w)
    have HPR := Lib.hid (fun (h : cnt b + (m + 1) * cnt n < cnt t) => (show kD (pr6 n) t O (m + 1) b D = [] by unfold kD; rw [kV_prune (pr6 n) t (cnt n) (fun k => cnt_pr6 n k) O (m + 1) b h]; rfl))
    have hcn := cnt_le n
    have hct := cnt_le t
    have hcb := cnt_le b
    have HKB := Lib.hid (kD_le (pr6 n) t O (m + 1) b D)
    have HK0 := Lib.hid (kA_0 (pr6 n) t O m b D)
    have HAS := Lib.hid (fun (i k : Nat) (h : O[i]? = some k) => kA_s (pr6 n) t O m b D h)
    have HAA := Lib.hid (kA_all (pr6 n) t O m b D)
    have HAL := Lib.hid (fun i (h : i ≤ O.length) => kA_le (pr6 n) t O m b D h)
    have hmul : (m + 1) * cnt n ≤ 36 * 36 := Nat.mul_le_mul hm hcn
    have hmi : (xm * ((cnt n : Nat) : Int)) = (((m + 1) * cnt n : Nat) : Int) := by rw [hxm]; simp
    clear hxm
    obtain ⟨q, hq⟩ : ∃ q, q = (m + 1) * cnt n := ⟨_, rfl⟩
    rw [← hq] at hmul hmi HPR
    clear hq
    generalize cnt n = cn at *
    generalize cnt t = ct at *
    generalize cnt b = cb at *
    have hPd : ∀ j, j < O.length → (kD (pr6 n) t O (m + 1) b D).length ≤ 68719476736 := fun j _ => Nat.le_trans HKB.out (Nat.le_trans (Nat.pow_le_pow_right (by omega) hlen) (by decide))
    obtain ⟨w4, hw4⟩ : ∃ w4, w4 = (((w.alloc (.cells #[.int .i64 (rw n 0), .int .i64 (rw n 1), .int .i64 (rw n 2), .int .i64 (rw n 3), .int .i64 (rw n 4), .int .i64 (rw n 5)] 26)).alloc (.cells #[.int .i64 (rw t 0), .int .i64 (rw t 1), .int .i64 (rw t 2), .int .i64 (rw t 3), .int .i64 (rw t 4), .int .i64 (rw t 5)] 26)).alloc (.cells #[.int .i64 (rw b 0), .int .i64 (rw b 1), .int .i64 (rw b 2), .int .i64 (rw b 3), .int .i64 (rw b 4), .int .i64 (rw b 5)] 26)).alloc (.cells #[] 28) := ⟨_, rfl⟩
    have hz4 : w4.heap.size = w.heap.size + 4 := by rw [hw4]; simp
    have hx4 : Ext w w4 := by rw [hw4]; exact ((((Ext.refl w).alloc _).alloc _).alloc _).alloc _
    have HA4 := Lib.hid (show Arr w4 w.heap.size (rw n) by rw [hw4]; exact (((Arr.new w (rw n) 26 rfl).alloc _ (by simp)).alloc _ (by first | (simp; done) | (simp; omega))).alloc _ (by first | (simp; done) | (simp; omega)))
    have HT4 := Lib.hid (show Arr w4 (w.heap.size + 1) (rw t) by rw [hw4]; exact ((Arr.new _ (rw t) 26 (by simp)).alloc _ (by simp)).alloc _ (by first | (simp; done) | (simp; omega)))
    have HB4 := Lib.hid (show Arr w4 (w.heap.size + 1 + 1) (rw b) by rw [hw4]; exact (Arr.new _ (rw b) 26 (by simp)).alloc _ (by simp))
    have HLE4 := Lib.hid (show w4.ownsRow (w.heap.size + 3) 28 1 (.slice (some ⟨w.heap.size + 1 + 1 + 1, 0, none⟩) 0 0) 0 [] by rw [hw4]; exact own_empty _ 28 1 (w.heap.size + 3) (by first | (simp; done) | (simp; omega)) (b := w.heap.size + 1 + 1 + 1) (by simp))
    have HW4 := Lib.hid hw4
    clear hw4
    skip
    go_enter Try.func224, Try.ntmps224
    go_wp2
    refine wp_calm0 (by kernel_rfl) (by kernel_rfl) ?_; intro hgr; (refine walkQ_step (fun K hK => ?_); go_simp; (try (go_ints; try go_simp)); first | (refine hK _ ?_; clear hK K) | (apply Exists.intro; refine ⟨fun _ => ?_, hK _ ?_⟩; (first | (go_at_call 150; with_reducible exact (HCT.out _)) | (go_at_call 150; with_reducible exact (HCB.out _)) | (go_at_call 150; with_reducible exact (HCN.out _))); clear hK K) | (simp only [↓IntWalk.iteOmega]; (try go_simp); (try (go_ints; try go_simp)); first | (refine hK _ ?_; clear hK K) | (apply Exists.intro; refine ⟨fun _ => ?_, hK _ ?_⟩; (first | (go_at_call 150; with_reducible exact (HCT.out _)) | (go_at_call 150; with_reducible exact (HCB.out _)) | (go_at_call 150; with_reducible exact (HCN.out _))); clear hK K))); (refine walkQ_step (fun K hK => ?_); go_simp; (try (go_ints; try go_simp)); first | (refine hK _ ?_; clear hK K) | (apply Exists.intro; refine ⟨fun _ => ?_, hK _ ?_⟩; (first | (go_at_call 150; with_reducible exact (HCT.out _)) | (go_at_call 150; with_reducible exact (HCB.out _)) | (go_at_call 150; with_reducible exact (HCN.out _))); clear hK K) | (simp only [↓IntWalk.iteOmega]; (try go_simp); (try (go_ints; try go_simp)); first | (refine hK _ ?_; clear hK K) | (apply Exists.intro; refine ⟨fun _ => ?_, hK _ ?_⟩; (first | (go_at_call 150; with_reducible exact (HCT.out _)) | (go_at_call 150; with_reducible exact (HCB.out _)) | (go_at_call 150; with_reducible exact (HCN.out _))); clear hK K))); (refine walkQ_step (fun K hK => ?_); go_simp; (try (go_ints; try go_simp)); first | (refine hK _ ?_; clear hK K) | (apply Exists.intro; refine ⟨fun _ => ?_, hK _ ?_⟩; (first | (go_at_call 150; with_reducible exact (HCT.out _)) | (go_at_call 150; with_reducible exact (HCB.out _)) | (go_at_call 150; with_reducible exact (HCN.out _))); clear hK K) | (simp only [↓IntWalk.iteOmega]; (try go_simp); (try (go_ints; try go_simp)); first | (refine hK _ ?_; clear hK K) | (apply Exists.intro; refine ⟨fun _ => ?_, hK _ ?_⟩; (first | (go_at_call 150; with_reducible exact (HCT.out _)) | (go_at_call 150; with_reducible exact (HCB.out _)) | (go_at_call 150; with_reducible exact (HCN.out _))); clear hK K))); (refine walkQ_step (fun K hK => ?_); go_simp; (try (go_ints; try go_simp)); first | (refine hK _ ?_; clear hK K) | (apply Exists.intro; refine ⟨fun _ => ?_, hK _ ?_⟩; (first | (go_at_call 150; with_reducible exact (HCT.out _)) | (go_at_call 150; with_reducible exact (HCB.out _)) | (go_at_call 150; with_reducible exact (HCN.out _))); clear hK K) | (simp only [↓IntWalk.iteOmega]; (try go_simp); (try (go_ints; try go_simp)); first | (refine hK _ ?_; clear hK K) | (apply Exists.intro; refine ⟨fun _ => ?_, hK _ ?_⟩; (first | (go_at_call 150; with_reducible exact (HCT.out _)) | (go_at_call 150; with_reducible exact (HCB.out _)) | (go_at_call 150; with_reducible exact (HCN.out _))); clear hK K))); (refine walkQ_step (fun K hK => ?_); go_simp; (try (go_ints; try go_simp)); first | (refine hK _ ?_; clear hK K) | (apply Exists.intro; refine ⟨fun _ => ?_, hK _ ?_⟩; (first | (go_at_call 150; with_reducible exact (HCT.out _)) | (go_at_call 150; with_reducible exact (HCB.out _)) | (go_at_call 150; with_reducible exact (HCN.out _))); clear hK K) | (simp only [↓IntWalk.iteOmega]; (try go_simp); (try (go_ints; try go_simp)); first | (refine hK _ ?_; clear hK K) | (apply Exists.intro; refine ⟨fun _ => ?_, hK _ ?_⟩; (first | (go_at_call 150; with_reducible exact (HCT.out _)) | (go_at_call 150; with_reducible exact (HCB.out _)) | (go_at_call 150; with_reducible exact (HCN.out _))); clear hK K))); (refine walkQ_step (fun K hK => ?_); go_simp; (try (go_ints; try go_simp)); first | (refine hK _ ?_; clear hK K) | (apply Exists.intro; refine ⟨fun _ => ?_, hK _ ?_⟩; (first | (go_at_call 150; with_reducible exact (HCT.out _)) | (go_at_call 150; with_reducible exact (HCB.out _)) | (go_at_call 150; with_reducible exact (HCN.out _))); clear hK K) | (simp only [↓IntWalk.iteOmega]; (try go_simp); (try (go_ints; try go_simp)); first | (refine hK _ ?_; clear hK K) | (apply Exists.intro; refine ⟨fun _ => ?_, hK _ ?_⟩; (first | (go_at_call 150; with_reducible exact (HCT.out _)) | (go_at_call 150; with_reducible exact (HCB.out _)) | (go_at_call 150; with_reducible exact (HCN.out _))); clear hK K))); (refine walkQ_step (fun K hK => ?_); go_simp; (try (go_ints; try go_simp)); first | (refine hK _ ?_; clear hK K) | (apply Exists.intro; refine ⟨fun _ => ?_, hK _ ?_⟩; (first | (go_at_call 150; with_reducible exact (HCT.out _)) | (go_at_call 150; with_reducible exact (HCB.out _)) | (go_at_call 150; with_reducible exact (HCN.out _))); clear hK K) | (simp only [↓IntWalk.iteOmega]; (try go_simp); (try (go_ints; try go_simp)); first | (refine hK _ ?_; clear hK K) | (apply Exists.intro; refine ⟨fun _ => ?_, hK _ ?_⟩; (first | (go_at_call 150; with_reducible exact (HCT.out _)) | (go_at_call 150; with_reducible exact (HCB.out _)) | (go_at_call 150; with_reducible exact (HCN.out _))); clear hK K))); (refine walkQ_step (fun K hK => ?_); go_simp; (try (go_ints; try go_simp)); first | (refine hK _ ?_; clear hK K) | (apply Exists.intro; refine ⟨fun _ => ?_, hK _ ?_⟩; (first | (go_at_call 150; with_reducible exact (HCT.out _)) | (go_at_call 150; with_reducible exact (HCB.out _)) | (go_at_call 150; with_reducible exact (HCN.out _))); clear hK K) | (simp only [↓IntWalk.iteOmega]; (try go_simp); (try (go_ints; try go_simp)); first | (refine hK _ ?_; clear hK K) | (apply Exists.intro; refine ⟨fun _ => ?_, hK _ ?_⟩; (first | (go_at_call 150; with_reducible exact (HCT.out _)) | (go_at_call 150; with_reducible exact (HCB.out _)) | (go_at_call 150; with_reducible exact (HCN.out _))); clear hK K))); (refine walkQ_step (fun K hK => ?_); go_simp; (try (go_ints; try go_simp)); first | (refine hK _ ?_; clear hK K) | (apply Exists.intro; refine ⟨fun _ => ?_, hK _ ?_⟩; (first | (go_at_call 150; with_reducible exact (HCT.out _)) | (go_at_call 150; with_reducible exact (HCB.out _)) | (go_at_call 150; with_reducible exact (HCN.out _))); clear hK K) | (simp only [↓IntWalk.iteOmega]; (try go_simp); (try (go_ints; try go_simp)); first | (refine hK _ ?_; clear hK K) | (apply Exists.intro; refine ⟨fun _ => ?_, hK _ ?_⟩; (first | (go_at_call 150; with_reducible exact (HCT.out _)) | (go_at_call 150; with_reducible exact (HCB.out _)) | (go_at_call 150; with_reducible exact (HCN.out _))); clear hK K))); (refine walkQ_step (fun K hK => ?_); go_simp; (try (go_ints; try go_simp)); first | (refine hK _ ?_; clear hK K) | (apply Exists.intro; refine ⟨fun _ => ?_, hK _ ?_⟩; (first | (go_at_call 150; with_reducible exact (HCT.out _)) | (go_at_call 150; with_reducible exact (HCB.out _)) | (go_at_call 150; with_reducible exact (HCN.out _))); clear hK K) | (simp only [↓IntWalk.iteOmega]; (try go_simp); (try (go_ints; try go_simp)); first | (refine hK _ ?_; clear hK K) | (apply Exists.intro; refine ⟨fun _ => ?_, hK _ ?_⟩; (first | (go_at_call 150; with_reducible exact (HCT.out _)) | (go_at_call 150; with_reducible exact (HCB.out _)) | (go_at_call 150; with_reducible exact (HCN.out _))); clear hK K))); refine walkQ_nil ?_; clear hgr; intro w1 hE; have hc2 := hE.cells; have hf2 := hE.frees; have hz2 := hE.size
    rw [← HW4.out] at hE
    replace hE : Ext w4 w1 := ((Ext.refl w4).drew).trans hE
    have HA := Lib.hid (HA4.out.ext hE (by omega))
    have HTT := Lib.hid (HT4.out.ext hE (by omega))
    have HB := Lib.hid (HB4.out.ext hE (by omega))
    have HLE := Lib.hid (own_ext HLE4.out hE)
    have hxb : Ext w w1 := hx4.trans hE
    have hzE := hE.size
    clear hc2 hf2 hz2 hE
    obtain ⟨wb, rfl⟩ : ∃ x, x = w1 := ⟨_, rfl⟩
    by_cases hpr : cb + q < ct
    · have HP0 := Lib.hid (HPR.out hpr)
      go_wp2
      go_returns
      exact ⟨_, rfl, hxb, by rw [HP0.out]; exact ⟨[], own_mono HLE.out (by omega), llv_nil _ _⟩⟩
    · have hzb : w.heap.size + 4 ≤ wb.heap.size := by omega
      go_wp2
      go_loopw [13, 14] (fun o i wr => ∃ j : Nat, j ≤ O.length ∧ i = .int .i64 j ∧ Ext w wr ∧ Arr wr w.heap.size (rw n) ∧ Arr wr (w.heap.size + 1) (rw t) ∧ Arr wr (w.heap.size + 1 + 1) (rw b) ∧ w.heap.size + 3 < wr.heap.size ∧ LLs wr (w.heap.size + 3) o (kA (pr6 n) t O m b D j)) (fun _ i _ => O.length - (intOf i).toNat)
      case atStart => exact ⟨0, Nat.zero_le _, rfl, hxb, HA.out, HTT.out, HB.out, by omega, by rw [HK0.out]; exact ⟨[], HLE.out, llv_nil _ _⟩⟩
      case round =>
        clear HA HTT HB HA4 HT4 HB4 HLE4 HLE
        obtain ⟨j, hj, rfl, hx, ha, htt, hbb, hz2, hll⟩ := hrel
        obtain ⟨wo, rfl⟩ : ∃ wo : World, wo = wr := ⟨_, rfl⟩
        have HA := Lib.hid ha
        have HTT := Lib.hid htt
        have HB := Lib.hid hbb
        have HLL := Lib.hid hll
        clear ha htt hbb hll
        obtain ⟨vs, hown, _⟩ := HLL.out
        obtain ⟨oo, oc, rfl, _⟩ := own_shape hown
        clear hown
        have za : w.heap.size < wo.heap.size := by omega
        have zt : w.heap.size + 1 < wo.heap.size := by omega
        have zb : w.heap.size + 1 + 1 < wo.heap.size := by omega
        by_cases hlt : j < O.length
        · obtain ⟨bO, o, rfl, hbw, hcl⟩ := HS.out (by omega)
          obtain ⟨k, hk⟩ : ∃ k, O[j]? = some k := ⟨O[j], List.getElem?_eq_getElem hlt⟩
          have hk36 := HG.out j k hk
          have hsz := hx.size
          have hvo : bO < wo.heap.size := by omega
          have hdec : O.length - (j + 1) < O.length - j := by omega
          have p1 := (hx.cells _ _ hbw).trans (hcl j k hk).1
          have p2 := (hx.cells _ _ hbw).trans (hcl j k hk).2
          have HC := Lib.hid hcl
          have HD := Lib.hid (HAS.out j k hk)
          have hK := hf k
          have HT := Lib.hid (show ∀ w, Calls Try.prog 207 #[(.agg #[.int .i64 (rw n 0), .int .i64 (rw n 1), .int .i64 (rw n 2), .int .i64 (rw n 3), .int .i64 (rw n 4), .int .i64 (rw n 5)]), (.agg #[.int .i64 (((k % 6 : Nat) : Int)), .int .i64 (((k / 6 : Nat) : Int))])] w fun e w' => e = .returned (.agg #[.int .i64 (rw (pr6 n k) 0), .int .i64 (rw (pr6 n k) 1), .int .i64 (rw (pr6 n k) 2), .int .i64 (rw (pr6 n k) 3), .int .i64 (rw (pr6 n k) 4), .int .i64 (rw (pr6 n k) 5)]) ∧ Ext w w' from fun w => l2At_n n (k % 6) (k / 6) (by omega) (by omega) w)
          have HO2 := Lib.hid (fun w => l2Or_n b (pr6 n k) w)
          have Q := Lib.hid (show pxy [k] = [.int .i64 ((k % 6 : Nat) : Int), .int .i64 ((k / 6 : Nat) : Int)] from rfl)
          have hbl : b ||| pr6 n k < 68719476736 := or36 hb hK
          have HR := Lib.hid (fun v u w hr hu => IH.out (O.drop (j + 1)) (by omega) (fun i k' h => HG.out (j + 1 + i) k' (by rw [List.getElem?_drop] at h; exact h)) (by rw [List.length_drop]; omega) (b ||| pr6 n k) hbl (D ++ [k]) (by rw [List.length_append]; simp; omega) v u (xm - 1) (by have := HXM.out; omega) w hr hu)
          have hal := HAL.out (j + 1) (by omega)
          rw [HD.out, List.length_append] at hal
          have hcbd := hPd j hlt
          have HRO := Lib.hid (rawl_drop (i := j + 1) (by omega) hcap hbw HC.out)
          have HC1 := Lib.hid (inn_cells (inn_stable _ _ _ _ hx HIN.out)).2
          have HC2 := Lib.hid (pxy_length D)
          have HC3 := Lib.hid (pxy_ones D)
          obtain ⟨⟨c0, c1, c2, c3, c4, c5⟩, _⟩ := HA.out.all
          obtain ⟨⟨e0, e1, e2, e3, e4, e5⟩, _⟩ := HB.out.all
          obtain ⟨⟨t0, t1, t2, t3, t4, t5⟩, _⟩ := HTT.out.all
          clear hcl hk hPd HKB
          generalize kD (pr6 n) t (O.drop (j + 1)) m (b ||| pr6 n k) (D ++ [k]) = TT at *
          generalize k % 6 = kx at *
          generalize k / 6 = ky at *
          skip
          go_wp2
          refine wp_made [(0, true), (1, true), (2, true), (3, true), (4, true), (5, true), (7, true), (9, true), (10, true), (11, true), (12, true), (15, true), (16, true), (17, true), (18, true), (19, true), (20, true), (23, true), (24, true)] [(6, []), (8, [6]), (13, [])] [(14, false), (21, true), (22, true), (25, false)] [26] (fun i => if i = 6 then Emp wo.heap.size 33 2 else if i = 8 then Rowf wo.heap.size 33 2 D.length (pxy D) else Cel [.int .i64 (kx : Int), .int .i64 (ky : Int)]) (by kernel_rfl) (by kernel_rfl) ?_ ?_
          · intro i x
            split
            · exact emp_stable _ _ _ _
            · split
              · exact rowf_stable _ _ _ _ _ _
              · exact cel_stable _ _
          simp only [pickO, pickT, List.getElem?_cons_succ, List.getElem?_cons_zero]
          intro hgr
          (refine walkP_step (fun K hK => ?_); go_simp; (try (go_ints; try go_simp)); first | (refine hK _ ?_; clear hK K) | (apply Exists.intro; refine ⟨fun _ => ?_, hK _ ?_⟩; (fail); clear hK K) | (simp only [↓IntWalk.iteOmega]; (try go_simp); (try (go_ints; try go_simp)); first | (refine hK _ ?_; clear hK K) | (apply Exists.intro; refine ⟨fun _ => ?_, hK _ ?_⟩; (fail); clear hK K))); (refine walkP_step (fun K hK => ?_); go_simp; (try (go_ints; try go_simp)); first | (refine hK _ ?_; clear hK K) | (apply Exists.intro; refine ⟨fun _ => ?_, hK _ ?_⟩; (fail); clear hK K) | (simp only [↓IntWalk.iteOmega]; (try go_simp); (try (go_ints; try go_simp)); first | (refine hK _ ?_; clear hK K) | (apply Exists.intro; refine ⟨fun _ => ?_, hK _ ?_⟩; (fail); clear hK K))); (refine walkP_step (fun K hK => ?_); go_simp; (try (go_ints; try go_simp)); first | (refine hK _ ?_; clear hK K) | (apply Exists.intro; refine ⟨fun _ => ?_, hK _ ?_⟩; (fail); clear hK K) | (simp only [↓IntWalk.iteOmega]; (try go_simp); (try (go_ints; try go_simp)); first | (refine hK _ ?_; clear hK K) | (apply Exists.intro; refine ⟨fun _ => ?_, hK _ ?_⟩; (fail); clear hK K))); (refine walkP_step (fun K hK => ?_); go_simp; (try (go_ints; try go_simp)); first | (refine hK _ ?_; clear hK K) | (apply Exists.intro; refine ⟨fun _ => ?_, hK _ ?_⟩; (fail); clear hK K) | (simp only [↓IntWalk.iteOmega]; (try go_simp); (try (go_ints; try go_simp)); first | (refine hK _ ?_; clear hK K) | (apply Exists.intro; refine ⟨fun _ => ?_, hK _ ?_⟩; (fail); clear hK K))); (refine walkP_step (fun K hK => ?_); go_simp; (try (go_ints; try go_simp)); first | (refine hK _ ?_; clear hK K) | (apply Exists.intro; refine ⟨fun _ => ?_, hK _ ?_⟩; (fail); clear hK K) | (simp only [↓IntWalk.iteOmega]; (try go_simp); (try (go_ints; try go_simp)); first | (refine hK _ ?_; clear hK K) | (apply Exists.intro; refine ⟨fun _ => ?_, hK _ ?_⟩; (fail); clear hK K))); (refine walkP_step (fun K hK => ?_); go_simp; (try (go_ints; try go_simp)); first | (refine hK _ ?_; clear hK K) | (apply Exists.intro; refine ⟨fun _ => ?_, hK _ ?_⟩; (fail); clear hK K) | (simp only [↓IntWalk.iteOmega]; (try go_simp); (try (go_ints; try go_simp)); first | (refine hK _ ?_; clear hK K) | (apply Exists.intro; refine ⟨fun _ => ?_, hK _ ?_⟩; (fail); clear hK K))); (refine walkP_step (fun K hK => ?_); go_simp; (try (go_ints; try go_simp)); first | (refine hK _ ?_; clear hK K) | (apply Exists.intro; refine ⟨fun _ => ?_, hK _ ?_⟩; (fail); clear hK K) | (simp only [↓IntWalk.iteOmega]; (try go_simp); (try (go_ints; try go_simp)); first | (refine hK _ ?_; clear hK K) | (apply Exists.intro; refine ⟨fun _ => ?_, hK _ ?_⟩; (fail); clear hK K))); (refine walkP_step (fun K hK => ?_); go_simp; (try (go_ints; try go_simp)); first | (refine hK _ ?_; clear hK K) | (apply Exists.intro; refine ⟨fun _ => ?_, hK _ ?_⟩; (fail); clear hK K) | (simp only [↓IntWalk.iteOmega]; (try go_simp); (try (go_ints; try go_simp)); first | (refine hK _ ?_; clear hK K) | (apply Exists.intro; refine ⟨fun _ => ?_, hK _ ?_⟩; (fail); clear hK K))); (refine walkP_step (fun K hK => ?_); go_simp; (try (go_ints; try go_simp)); first | (refine hK _ ?_; clear hK K) | (apply Exists.intro; refine ⟨fun _ => ?_, hK _ ?_⟩; (fail); clear hK K) | (simp only [↓IntWalk.iteOmega]; (try go_simp); (try (go_ints; try go_simp)); first | (refine hK _ ?_; clear hK K) | (apply Exists.intro; refine ⟨fun _ => ?_, hK _ ?_⟩; (fail); clear hK K))); (refine walkP_step (fun K hK => ?_); go_simp; (try (go_ints; try go_simp)); first | (refine hK _ ?_; clear hK K) | (apply Exists.intro; refine ⟨fun _ => ?_, hK _ ?_⟩; (fail); clear hK K) | (simp only [↓IntWalk.iteOmega]; (try go_simp); (try (go_ints; try go_simp)); first | (refine hK _ ?_; clear hK K) | (apply Exists.intro; refine ⟨fun _ => ?_, hK _ ?_⟩; (fail); clear hK K))); (refine walkP_step (fun K hK => ?_); go_simp; (try (go_ints; try go_simp)); first | (refine hK _ ?_; clear hK K) | (apply Exists.intro; refine ⟨fun _ => ?_, hK _ ?_⟩; (fail); clear hK K) | (simp only [↓IntWalk.iteOmega]; (try go_simp); (try (go_ints; try go_simp)); first | (refine hK _ ?_; clear hK K) | (apply Exists.intro; refine ⟨fun _ => ?_, hK _ ?_⟩; (fail); clear hK K))); (refine walkP_step (fun K hK => ?_); go_simp; (try (go_ints; try go_simp)); first | (refine hK _ ?_; clear hK K) | (apply Exists.intro; refine ⟨fun _ => ?_, hK _ ?_⟩; (fail); clear hK K) | (simp only [↓IntWalk.iteOmega]; (try go_simp); (try (go_ints; try go_simp)); first | (refine hK _ ?_; clear hK K) | (apply Exists.intro; refine ⟨fun _ => ?_, hK _ ?_⟩; (fail); clear hK K))); (refine walkP_step (fun K hK => ?_); go_simp; (try (go_ints; try go_simp)); first | (refine hK _ ?_; clear hK K) | (apply Exists.intro; refine ⟨fun _ => ?_, hK _ ?_⟩; (fail); clear hK K) | (simp only [↓IntWalk.iteOmega]; (try go_simp); (try (go_ints; try go_simp)); first | (refine hK _ ?_; clear hK K) | (apply Exists.intro; refine ⟨fun _ => ?_, hK _ ?_⟩; (fail); clear hK K))); (refine walkP_step (fun K hK => ?_); go_simp; (try (go_ints; try go_simp)); first | (refine hK _ ?_; clear hK K) | (apply Exists.intro; refine ⟨fun _ => ?_, hK _ ?_⟩; (fail); clear hK K) | (simp only [↓IntWalk.iteOmega]; (try go_simp); (try (go_ints; try go_simp)); first | (refine hK _ ?_; clear hK K) | (apply Exists.intro; refine ⟨fun _ => ?_, hK _ ?_⟩; (fail); clear hK K))); (refine walkP_step (fun K hK => ?_); go_simp; (try (go_ints; try go_simp)); first | (refine hK _ ?_; clear hK K) | (apply Exists.intro; refine ⟨fun _ => ?_, hK _ ?_⟩; (fail); clear hK K) | (simp only [↓IntWalk.iteOmega]; (try go_simp); (try (go_ints; try go_simp)); first | (refine hK _ ?_; clear hK K) | (apply Exists.intro; refine ⟨fun _ => ?_, hK _ ?_⟩; (fail); clear hK K))); (refine walkP_step (fun K hK => ?_); go_simp; (try (go_ints; try go_simp)); first | (refine hK _ ?_; clear hK K) | (apply Exists.intro; refine ⟨fun _ => ?_, hK _ ?_⟩; (fail); clear hK K) | (simp only [↓IntWalk.iteOmega]; (try go_simp); (try (go_ints; try go_simp)); first | (refine hK _ ?_; clear hK K) | (apply Exists.intro; refine ⟨fun _ => ?_, hK _ ?_⟩; (fail); clear hK K))); (refine walkP_step (fun K hK => ?_); go_simp; (try (go_ints; try go_simp)); first | (refine hK _ ?_; clear hK K) | (apply Exists.intro; refine ⟨fun _ => ?_, hK _ ?_⟩; (fail); clear hK K) | (simp only [↓IntWalk.iteOmega]; (try go_simp); (try (go_ints; try go_simp)); first | (refine hK _ ?_; clear hK K) | (apply Exists.intro; refine ⟨fun _ => ?_, hK _ ?_⟩; (fail); clear hK K))); (refine walkP_step (fun K hK => ?_); go_simp; (try (go_ints; try go_simp)); first | (refine hK _ ?_; clear hK K) | (apply Exists.intro; refine ⟨fun _ => ?_, hK _ ?_⟩; (fail); clear hK K) | (simp only [↓IntWalk.iteOmega]; (try go_simp); (try (go_ints; try go_simp)); first | (refine hK _ ?_; clear hK K) | (apply Exists.intro; refine ⟨fun _ => ?_, hK _ ?_⟩; (fail); clear hK K))); (refine walkP_step (fun K hK => ?_); go_simp; (try (go_ints; try go_simp)); first | (refine hK _ ?_; clear hK K) | (apply Exists.intro; refine ⟨fun _ => ?_, hK _ ?_⟩; (fail); clear hK K) | (simp only [↓IntWalk.iteOmega]; (try go_simp); (try (go_ints; try go_simp)); first | (refine hK _ ?_; clear hK K) | (apply Exists.intro; refine ⟨fun _ => ?_, hK _ ?_⟩; (fail); clear hK K)))
          refine walkP_nil ⟨?_, List.forall_mem_cons.2 ⟨?_, List.forall_mem_cons.2 ⟨?_, List.forall_mem_cons.2 ⟨?_, fun _ h => nomatch h⟩⟩⟩, fun xs F hF => ?_⟩
          · simp [dstO]
          · intro ow how xs wc hxc hF hd R hR
            simp only [List.getElem?_cons_succ, List.getElem?_cons_zero, Option.some.injEq] at how
            subst how
            simp only [dstO, puts, List.map_nil]
            have hs := hxc.size
            simp at hs
            go_simp
            simp only [anyUpon]
            exact hR _ _ ((Ext.refl _).alloc _) (emp_new 33 2 hs)
          · intro ow how xs wc hxc hF hd R hR
            simp only [List.getElem?_cons_succ, List.getElem?_cons_zero, Option.some.injEq] at how
            subst how
            have hd9 := hd 6 (by simp)
            simp only [dstO, puts, List.map_cons, List.map_nil, List.getElem?_cons_succ, List.getElem?_cons_zero, Option.bind_some, Option.getD_some] at hd9 ⊢
            obtain ⟨eb, g1, g2, g3, g4⟩ := hd9
            refine any_append_new _ _ _ (by rfl) 33 i0 (.agg #[.int .i64 0, .int .i64 0]) 2 16 Try.underlying28 hi iz0 iz1 iz2 (by rfl) (by decide) eb (Eq.trans (by rfl) g1) g4 ⟨ub, uo, none⟩ D.length uc (by rfl) (pxy D) (fun jj uu h => ?_) HC2.out HC3.out (by unfold maxLen; omega) (by omega) wo.heap.size g2 (fun b' c' w' hx' ho' => hR _ _ hx' ⟨b', c', rfl, by have := hxc.size; have := hx'.size; simp at *; omega, ho'⟩)
            have hq := HC1.out jj uu h
            rw [Go.WideShapes.add_plain] at hq ⊢
            exact ((((Ext.refl wo).drew).trans hxc).cells ub _ (by omega)).trans hq
          · intro ow how xs wc hxc hF hd R hR
            simp only [List.getElem?_cons_succ, List.getElem?_cons_zero, Option.some.injEq] at how
            subst how
            simp only [dstO, puts, List.map_nil]
            go_simp
            simp only [anyUpon]
            exact hR _ _ ((Ext.refl _).alloc _) (cel_two _ _ _)
          · simp only [dstO, puts, List.map_cons, List.map_nil, List.getElem?_cons_succ, List.getElem?_cons_zero, Option.bind_some, Option.getD_some] at hF ⊢
            have hF11 : ∀ w', F w' → Rowf wo.heap.size 33 2 D.length (pxy D) (xs 54) w' := fun w' h => (hF w' h).2 (8, [6]) (by simp)
            have hF16 : ∀ w', F w' → Cel [.int .i64 (kx : Int), .int .i64 (ky : Int)] (xs 59) w' := fun w' h => (hF w' h).2 (13, []) (by simp)
            clear hF
            refine walkP_appendF rfl _ _ _ rfl wo.heap.size 33 i0 (.agg #[.int .i64 0, .int .i64 0]) 2 16 Try.underlying28 hi iz0 iz1 iz2 (by rfl) (by decide) (by simp) (xs 54) D.length (pxy D) (by rfl) (xs 59) 1 [.int .i64 (kx : Int), .int .i64 (ky : Int)] (by rfl) (by rfl) (by simp [Value.oneCell']) (by unfold maxLen; omega) (by omega) (fun wc hxc hFw => ?_) (fun v2 => ?_)
            · obtain ⟨b1, c1', f1, f2, f3⟩ := hF11 wc hFw
              obtain ⟨b2, f4, f5, f6⟩ := hF16 wc hFw
              exact ⟨f3, f2, _, _, f4, f6⟩
            (refine walkP_step (fun K hK => ?_); go_simp; (try (go_ints; try go_simp)); first | (refine hK _ ?_; clear hK K) | (apply Exists.intro; refine ⟨fun _ => ?_, hK _ ?_⟩; (first | (go_at_call 207; exact (HT.out _)) | (go_at_call 190; exact (HO2.out _))); clear hK K) | (simp only [↓IntWalk.iteOmega]; (try go_simp); (try (go_ints; try go_simp)); first | (refine hK _ ?_; clear hK K) | (apply Exists.intro; refine ⟨fun _ => ?_, hK _ ?_⟩; (first | (go_at_call 207; exact (HT.out _)) | (go_at_call 190; exact (HO2.out _))); clear hK K))); (refine walkP_step (fun K hK => ?_); go_simp; (try (go_ints; try go_simp)); first | (refine hK _ ?_; clear hK K) | (apply Exists.intro; refine ⟨fun _ => ?_, hK _ ?_⟩; (first | (go_at_call 207; exact (HT.out _)) | (go_at_call 190; exact (HO2.out _))); clear hK K) | (simp only [↓IntWalk.iteOmega]; (try go_simp); (try (go_ints; try go_simp)); first | (refine hK _ ?_; clear hK K) | (apply Exists.intro; refine ⟨fun _ => ?_, hK _ ?_⟩; (first | (go_at_call 207; exact (HT.out _)) | (go_at_call 190; exact (HO2.out _))); clear hK K)))
            refine walkP_callR (fun v => v) (fun v w' => LLs w' wo.heap.size v TT) (fun _ _ _ hx h => lls_ext h hx) rfl (fun wc hxc hFw R hR => ?_) (fun v3 => ?_)
            · obtain ⟨g1, g2⟩ := hFw
              obtain ⟨v2o, v2c, rfl, hsh2⟩ := own_shape g1
              obtain ⟨v2b, rfl, _, _⟩ := hsh2 (by omega)
              rw [← Q.out, ← pxy_append] at g1
              have hIn := inn_own (L := D ++ [k]) (by rw [List.length_append]; rfl) g1
              go_simp
              simp only [anyUpon]
              go_at_call 224
              refine (HR.out _ _ _ (rawl_ext HRO.out ((hx.drew).trans hxc)) hIn).mono ?_
              rintro e w1 ⟨r, rfl, hE, hll⟩
              exact ⟨_, rfl, hR _ _ hE (lls_mono hll g2)⟩
            refine walkP_nil ?_
            clear hgr
            intro w1 hE hFw
            replace hE : Ext wo w1 := ((Ext.refl wo).drew).trans hE
            obtain ⟨_, us, ho3, hl3⟩ := hFw
            obtain ⟨vs, ho2, hl2⟩ := HLL.out
            have hs3 := hE.size
            have hox := own_ext ho2 hE
            have hlx := llv_ext hl2 hE
            have HOX := Lib.hid hox
            have hx6 := hx.trans hE
            have hA6 := HA.out.ext hE za
            have hB6 := HB.out.ext hE zb
            have hT6 := HTT.out.ext hE zt
            clear ho2 hl2
            rcases ho3.2 with ⟨hv3, hn3⟩ | ⟨g3, c3', cur3, hv3, hb3, hg3, _⟩
            · subst hv3
              have hTT : TT = [] := List.eq_nil_of_length_eq_zero hn3
              rw [hTT, List.append_nil] at HD
              have HDD := Lib.hid (show LLs w1 (w.heap.size + 3) (.slice oo (kA (pr6 n) t O m b D j).length oc) (kA (pr6 n) t O m b D (j + 1)) by rw [HD.out]; exact ⟨vs, hox, hlx⟩)
              have HA6 := Lib.hid hA6
              have HB6 := Lib.hid hB6
              have HT6 := Lib.hid hT6
              clear hA6 hB6 hT6 hTT hox hlx hal
              go_wp2_with (at_builtin; refine wpList_append_own_none (by rfl) _ _ 153 (by rfl) (w.heap.size + 3) 28 s0 1 Try.underlying153 si _ _ _ (by rfl) HOX.out (by rfl) ?_)
              refine ⟨⟨j + 1, by omega, by go_num, hx6, HA6.out, HT6.out, HB6.out, by omega, HDD.out⟩, by simp [intOf]; first | exact hdec | omega⟩
            · subst hv3
              have HA6 := Lib.hid hA6
              have HB6 := Lib.hid hB6
              have HT6 := Lib.hid hT6
              have HLX := Lib.hid hlx
              have HL3 := Lib.hid hl3
              have HN3 := Lib.hid (show ∀ (jj : Nat) (uu : Value), us[jj]? = some uu → w1.cell? ((⟨g3, 0, none⟩ : Addr).add jj) = some uu from fun jj uu h => by
                rw [Go.WideShapes.add_plain, Nat.zero_add]
                have hlt2 := (List.getElem?_eq_some_iff.1 h).1
                rw [ho3.1] at hlt2
                exact (ho3.cellAt jj hlt2).trans h)
              have HN4 := Lib.hid ho3.1
              have hl5 : (kA (pr6 n) t O m b D j).length + TT.length ≤ 68719476736 := by omega
              clear hA6 hB6 hT6 hox hlx hal hl3 ho3 hg3
              go_wp2_with (at_builtin; refine wpList_append_own _ (by rfl) _ _ 153 (by rfl) (w.heap.size + 3) 28 s0 (.slice none 0 0) 1 24 Try.underlying153 si sz0 sz1 sz2 (by rfl) (by decide) _ _ _ (by rfl) HOX.out ⟨g3, 0, none⟩ TT.length c3' us (by rfl) HN4.out HN3.out HL3.out.2.1 (by unfold maxLen; omega) (by omega) (by omega) ?_; intro v4 w4 hown4 hgrow4 _)
              have hs4 := hgrow4.size
              have hlt4 := HOX.out.lt
              have HX7 := Lib.hid (show Ext w w4 from .of (hx6.below.grown hgrow4 hx6.size (fun k hk => by have := (hlt4 k hk).1; omega)))
              have HA7 := Lib.hid (arr_grow HA6.out hgrow4 (by omega) (fun e => by have := (hlt4 _ e.symm).1; omega))
              have HB7 := Lib.hid (arr_grow HB6.out hgrow4 (by omega) (fun e => by have := (hlt4 _ e.symm).1; omega))
              have HT7 := Lib.hid (arr_grow HT6.out hgrow4 (by omega) (fun e => by have := (hlt4 _ e.symm).1; omega))
              have HL7 := Lib.hid (show LLs w4 (w.heap.size + 3) v4 (kA (pr6 n) t O m b D (j + 1)) by
                rw [HD.out]
                exact ⟨vs ++ us, by rw [List.length_append]; exact hown4, llv_append (llv_grown HLX.out HOX.out hgrow4) (llv_grown (llv_mono HL3.out (by omega)) HOX.out hgrow4)⟩)
              refine ⟨⟨j + 1, by omega, by go_num, HX7.out, HA7.out, HT7.out, HB7.out, by omega, HL7.out⟩, by simp [intOf]; first | exact hdec | omega⟩
        · obtain rfl : j = O.length := by omega
          go_wp2
          go_returns
          exact ⟨_, rfl, hx, by rw [← HAA.out]; exact lls_mono HLL.out (show w.heap.size ≤ w.heap.size + 3 by omega)⟩
end Go.Proofs.Ytadnfocbfabjnaa
