/- Off: contracts of functions, and lemmas, for this seat. Conditions: as each states. -/
import Derived.Test.YtlifhoajamnehaaOff0
import Derived.Test.YtlifhoajamnehaaLists
set_option linter.unusedVariables false
set_option maxRecDepth 100000
set_option maxHeartbeats 1000000
namespace Go.Proofs.Ytlifhoajamnehaa
open Go Go.RowKit Instr
theorem own_cap2 {w : World} {B : Nat} {e : TypeId} {size : Nat} {ao : Option Addr} {n cap : Nat} {xs : List Value} (h : w.ownsRow B e size (.slice ao n cap) n xs) : n ≤ cap := by
  rcases h.2 with ⟨hv, hn⟩ | ⟨g, c, cur, hv, hb, hg, hn, _⟩
  · injection hv with _ h1 h2; omega
  · injection hv with _ _ h2; omega
theorem ints_one (L : List Nat) : ∀ u ∈ ints L, u.oneCell' = true := by
  intro u hu
  unfold ints at hu
  obtain ⟨k, _, rfl⟩ := List.mem_map.1 hu
  rfl
theorem nil_eq : ∀ w, (binOp .eql 44 (.slice none 0 0) (.slice none 0 0)).run Try.prog w = .ok (.bool true) w := fun w => by kernel_rfl
theorem nil_ne (g n cap : Nat) : ∀ w, (binOp .eql 44 (.slice (some ⟨g, 0, none⟩) n cap) (.slice none 0 0)).run Try.prog w = .ok (.bool false) w := fun w => by kernel_rfl
theorem clone_n (D : List Nat) (hl : D.length ≤ 1000) (B : Nat) (v : Value) (w : World) (ho : w.ownsRow B 3 1 v D.length (ints D)) :
    Calls Try.prog 158 #[v] w fun e w' => ∃ u, e = .returned u ∧ Ext w w' ∧ w'.ownsRow w.heap.size 3 1 u D.length (ints D) := by
  obtain ⟨i0, hi, iz0, iz1, iz2⟩ := info_parts info_int
  have HO := Lib.hid ho
  rcases ho.2 with ⟨hv, hn⟩ | ⟨g, cap, cur, hv, hb, hg, hn, _⟩
  · clear ho
    subst hv
    have HD := Lib.hid (List.eq_nil_of_length_eq_zero hn)
    clear hn
    have he := nil_eq
    go_enter Try.func158, Try.ntmps158
    go_wp2
    go_returns
    exact ⟨_, rfl, (by (repeat' (first | (with_reducible exact Ext.refl _) | (with_reducible assumption) | (with_reducible refine Ext.alloc ?_ _) | (with_reducible refine Ext.drew ?_) | (with_reducible refine Ext.drewN ?_ _) | (with_reducible refine Ext.setCell ?_ ?_ _) | (with_reducible refine Ext.trans ?_ (by assumption)))) <;> (first | (with_reducible assumption) | omega | (simp; done) | (simp; omega))), by rw [HD.out]; exact World.ownsRow_nil _ _ _ _⟩
  · clear ho
    subst hv
    have hgl := row_lt hg
    clear hg
    have HN := Lib.hid (show ∀ (j : Nat) (u : Value), (ints D)[j]? = some u → (w.alloc (.cells #[] 3)).cell? ((⟨g, 0, none⟩ : Addr).add j) = some u from fun j u h => by
      rw [Go.WideShapes.add_plain, Nat.zero_add]
      exact (((Ext.refl w).alloc _).cells g _ hgl).trans ((HO.out.cellAt j (by have := (List.getElem?_eq_some_iff.1 h).1; rw [ints_length] at this; omega)).trans h))
    have HE := Lib.hid (own_empty w 3 1 w.heap.size (Nat.le_refl _) rfl)
    have H1 := Lib.hid (ints_one D)
    have H2 := Lib.hid (ints_length D)
    have he := nil_ne g D.length cap
    go_enter Try.func158, Try.ntmps158
    go_wp2_with (at_builtin; refine wpList_append_own _ (by rfl) _ _ 44 (by rfl) w.heap.size 3 i0 (.int .i64 0) 1 8 Try.underlying44 hi iz0 iz1 iz2 (by rfl) (by decide) _ _ _ (by rfl) HE.out ⟨g, 0, none⟩ D.length cap (ints D) (by rfl) (by rw [H2.out, Nat.mul_one]) HN.out H1.out (by unfold maxLen; omega) (by omega) (by simp) ?_; intro v1 w2 hown hgrow _)
    have HX := Lib.hid (show Ext w w2 from .of (((Ext.refl w).alloc (.cells #[] 3)).below.grown hgrow (by simp) (fun k hk => by have := (HE.out.lt k hk).1; omega)))
    rw [Nat.zero_add, List.nil_append] at hown
    go_returns
    exact ⟨_, rfl, HX.out, hown⟩
end Go.Proofs.Ytlifhoajamnehaa
