/- Nq VCut: contracts of functions, and lemmas, for this seat. Conditions: as each states. -/
import Derived.Test.YtlifhoajamnehaaPr11
import Derived.Test.YtlifhoajamnehaaPr14
import Derived.Test.YtlifhoajamnehaaPr09
set_option linter.unusedVariables false
set_option linter.unusedSimpArgs false
set_option maxRecDepth 100000
set_option maxHeartbeats 1000000
namespace Go.Proofs.Ytlifhoajamnehaa
open Go Go.RowKit Instr
end Go.Proofs.Ytlifhoajamnehaa
set_option linter.unusedVariables false
set_option linter.unusedSimpArgs false
set_option maxRecDepth 100000
set_option maxHeartbeats 2000000
namespace Go.Proofs.Ytlifhoajamnehaa
open Go Go.RowKit Instr
theorem info_u8 : (Try.prog.info? 5).map (fun i => (i.zero, i.size, i.bytes)) = some (some (.int .u8 0), 1, 1) := by kernel_rfl
/-- the second append: the bytes behind one another -/
theorem push_u8 {w w1 : World} {L : List Nat} {v1 : Value} (q : Nat) (hq : q < 256) (hL : ∀ x ∈ L, x < 256) (hx : Ext w w1) (ho : w1.ownsRow w.heap.size 5 1 v1 L.length (byv L)) :
    (w1.alloc (.cells #[.int .u8 (q : Nat)] 5)).ownsRow w.heap.size 5 1 v1 L.length (byv L) ∧ (∀ j u, ([.int .u8 (q : Nat)] : List Value)[j]? = some u → (w1.alloc (.cells #[.int .u8 (q : Nat)] 5)).cell? ((⟨w1.heap.size, 0, none⟩ : Addr).add j) = some u) ∧
    ∀ v2 w2, w2.ownsRow w.heap.size 5 1 v2 (L.length + 1) (byv L ++ [.int .u8 (q : Nat)]) → (w1.alloc (.cells #[.int .u8 (q : Nat)] 5)).grownBy w2 v1.ownBlock → Ext w w2 ∧ Byt w2 w2.heap.size v2 (L.length + 1) := by
  have h1 := own_ext ho ((Ext.refl w1).alloc (.cells #[.int .u8 (q : Nat)] 5))
  refine ⟨h1, fun j u h => ?_, fun v2 w2 h2 h3 => ⟨?_, ?_⟩⟩
  · rw [Go.WideShapes.add_plain, Nat.zero_add]
    refine (World.cell?_alloc_at _ _ _ _ rfl).trans ?_
    cases j with
    | zero => simpa using h
    | succ j => simp at h
  · exact .of ((hx.alloc (.cells #[.int .u8 (q : Nat)] 5)).below.grown h3 (by have := hx.size; simp; omega) (fun k hk => by have := (h1.lt k hk).1; omega))
  · have he : byv L ++ [.int .u8 (q : Nat)] = byv (L ++ [q]) := by unfold byv; simp
    have hl : L.length + 1 = (L ++ [q]).length := by simp
    rw [he, hl] at h2
    rw [hl]
    exact byt_own h2 (fun x hx => by rcases List.mem_append.1 hx with h | h; exact hL x h; simp at h; omega)
theorem end_u8 (w : World) (q : Nat) (hq : q < 256) (c : Nat) (Y : Array Value) (n : Nat) : ∃ u m, Ending.returned (Value.slice (some ⟨w.heap.size + 1 + 1, 0, none⟩) 1 c) = .returned u ∧ Ext w ((((w.alloc (.cells #[] 5)).alloc (.cells #[.int .u8 (q : Nat)] 5)).alloc (.cells (#[.int .u8 (q : Nat)] ++ Y) 5)).drew) ∧
    Byt ((((w.alloc (.cells #[] 5)).alloc (.cells #[.int .u8 (q : Nat)] 5)).alloc (.cells (#[.int .u8 (q : Nat)] ++ Y) 5)).drew) ((((w.alloc (.cells #[] 5)).alloc (.cells #[.int .u8 (q : Nat)] 5)).alloc (.cells (#[.int .u8 (q : Nat)] ++ Y) 5)).drew).heap.size u m ∧ m ≤ n + 1 := by
  refine ⟨_, 1, rfl, (by (repeat' (first | (with_reducible exact Ext.refl _) | (with_reducible assumption) | (with_reducible refine Ext.alloc ?_ _) | (with_reducible refine Ext.drew ?_) | (with_reducible refine Ext.drewN ?_ _) | (with_reducible refine Ext.setCell ?_ ?_ _) | (with_reducible refine Ext.trans ?_ (by assumption)))) <;> (first | (with_reducible assumption) | omega | (simp; done) | (simp; omega))), ⟨_, _, rfl, fun _ => ⟨w.heap.size + 1 + 1, 0, rfl, by simp, fun j hj => ⟨q, hq, ?_⟩⟩⟩, by omega⟩
  obtain rfl : j = 0 := by omega
  have h : (((w.alloc (.cells #[] 5)).alloc (.cells #[.int .u8 (q : Nat)] 5)).alloc (.cells (#[.int .u8 (q : Nat)] ++ Y) 5)).cell? ⟨w.heap.size + 1 + 1, 0, none⟩ = _ := World.cell?_alloc_at _ _ _ _ (by simp)
  refine h.trans ?_
  rw [Array.getElem?_append_left (by simp)]
  rfl
theorem vCut_n (k : Nat) (hk : k ≤ 2) (v : Value) (n : Nat) (hn : n ≤ 65536) (hcap : capOk v) (w : World) (hv : Byt w w.heap.size v n) : Calls Try.prog 17 #[v, .int .i64 (k : Nat)] w fun e w' => ∃ u m, e = .returned u ∧ Ext w w' ∧ Byt w' w'.heap.size u m ∧ m ≤ n + 1 := by
  obtain ⟨i0, hi, iz0, iz1, iz2⟩ := info_parts info_u8
  obtain ⟨ao, cap, rfl, hs⟩ := hv
  have hc : n ≤ cap := hcap _ _ _ rfl
  clear hcap
  by_cases hkn : n ≤ k
  · have HE := Lib.hid (fun q hq c Y => end_u8 w q hq c Y n)
    clear hs
    by_cases hlt : n < k
    · cases ao
      all_goals
        go_enter Try.func17, Try.ntmps17
        go_wp2
      all_goals
        go_returns
        exact HE.out n (by omega) _ _
    · obtain rfl : n = k := by omega
      cases ao
      all_goals
        go_enter Try.func17, Try.ntmps17
        go_wp2
      all_goals
        go_returns
        exact HE.out n (by omega) _ _
  · obtain ⟨b, o, rfl, hb, hcl⟩ := hs (by omega)
    obtain ⟨L, h1, h2, h3⟩ := byt_list (C := 0) hcl
    have HL0 := Lib.hid (show (L.drop k).length = n - k by rw [List.length_drop]; omega)
    have HLB := Lib.hid (show ∀ x ∈ L.drop k, x < 256 from fun x hx => h2 x (List.mem_of_mem_drop hx))
    have HLC := Lib.hid (show ∀ j u, (byv (L.drop k))[j]? = some u → (w.alloc (.cells #[] 5)).cell? ((⟨b, o + k, none⟩ : Addr).add j) = some u from fun j u h => by
      obtain ⟨x, hx, rfl⟩ := byv_of _ j u h
      rw [List.getElem?_drop] at hx
      rw [Go.WideShapes.add_plain, Nat.add_assoc]
      exact (((Ext.refl w).alloc _).cells b _ hb).trans (h3 _ _ hx))
    have HLL := Lib.hid (show (byv (L.drop k)).length = (n - k) * 1 by rw [byv_length, HL0.out, Nat.mul_one])
    have HE := Lib.hid (own_empty w 5 1 w.heap.size (Nat.le_refl _) rfl)
    clear h1 h2 h3 hcl hs
    generalize L.drop k = R at *
    have hck : ¬ cap = k := by omega
    have tk0 := Lib.hid True.intro
    go_enter Try.func17, Try.ntmps17
    go_wp2_with (first | (clear tk0; (at_builtin; refine wpList_append_own _ (by rfl) _ _ 22 (by rfl) w.heap.size 5 i0 (.int .u8 0) 1 1 Try.underlying22 hi iz0 iz1 iz2 (by rfl) (by decide) _ _ _ (by rfl) HE.out ⟨b, o + k, none⟩ (n - k) (cap - k) (byv R) (by rfl) HLL.out HLC.out (byv_one R) (by unfold maxLen; omega) (by omega) (by simp) ?_; intro v1 w1 hown hgrow _; have HX := Lib.hid (show Ext w w1 from .of (((Ext.refl w).alloc (.cells #[] 5)).below.grown hgrow (by simp) (fun k hk => by have := (HE.out.lt k hk).1; omega))); rw [Nat.zero_add, List.nil_append, ← HL0.out] at hown; obtain ⟨v1o, v1c, rfl, _⟩ := own_shape hown; have HP := Lib.hid (push_u8 k (by omega) HLB.out HX.out hown); clear hown hgrow; obtain ⟨wa, rfl⟩ : ∃ x, x = w1 := ⟨_, rfl⟩)) | (at_builtin; go_loud (refine wpList_append_own _ (by rfl) _ _ 22 (by rfl) w.heap.size 5 i0 (.int .u8 0) 1 1 Try.underlying22 hi iz0 iz1 iz2 (by rfl) (by decide) _ _ _ (by rfl) HP.out.1 ⟨wa.heap.size, 0, none⟩ 1 1 [.int .u8 (k : Nat)] (by rfl) (by rfl) HP.out.2.1 (fun u h => by simp at h; subst h; rfl) (by have := HL0.out; unfold maxLen; omega) (by have := HL0.out; omega) (by have := HX.out.size; simp; omega) ?_; intro v2 w2 hown hgrow _; have HQ := Lib.hid (HP.out.2.2 v2 w2 hown hgrow))))
    go_returns
    exact ⟨_, _, rfl, HQ.out.1, HQ.out.2, by have := HL0.out; omega⟩
theorem vBig_n (b : Bool) (ao : Option Addr) (n cap : Nat) (h : decide (65536 < n) = b) (w : World) : Calls Try.prog 8 #[.slice ao n cap] w fun e w' => e = .returned (.bool b) ∧ Ext w w' := by
  subst h
  go_enter Try.func8, Try.ntmps8
  go_wp2
  go_returns
  exact ⟨by simp; omega, (by (repeat' (first | (with_reducible exact Ext.refl _) | (with_reducible assumption) | (with_reducible refine Ext.alloc ?_ _) | (with_reducible refine Ext.drew ?_) | (with_reducible refine Ext.drewN ?_ _) | (with_reducible refine Ext.setCell ?_ ?_ _) | (with_reducible refine Ext.trans ?_ (by assumption)))) <;> (first | (with_reducible assumption) | omega | (simp; done) | (simp; omega)))⟩
end Go.Proofs.Ytlifhoajamnehaa
