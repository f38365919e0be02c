/- Off: contracts of functions, and lemmas, for this seat. Conditions: as each states. -/
import Derived.Test.YtiimkdakpdmblaaOwn
import Derived.Test.YtiimkdakpdmblaaSl
import Derived.Test.YtiimkdakpdmblaaLists
set_option linter.unusedVariables false
set_option maxRecDepth 100000
set_option maxHeartbeats 1000000
namespace Go.Proofs.Ytiimkdakpdmblaa
open Go Go.RowKit Instr
/-! a world in which some blocks alone may have been written -/
structure Off (S : Nat → Prop) (a w : World) : Prop where
  os : w.os = a.os
  tape : w.tape = a.tape
  output : w.output = a.output
  size : a.heap.size ≤ w.heap.size
  block : ∀ k, k < a.heap.size → ¬ S k → w.heap[k]? = a.heap[k]?
theorem Off.refl (S : Nat → Prop) (w : World) : Off S w w := ⟨rfl, rfl, rfl, Nat.le_refl _, fun _ _ _ => rfl⟩
theorem Off.trans {S : Nat → Prop} {a b c : World} (h : Off S a b) (k : Off S b c) : Off S a c :=
  ⟨k.os.trans h.os, k.tape.trans h.tape, k.output.trans h.output, Nat.le_trans h.size k.size, fun i hi hs => (k.block i (Nat.lt_of_lt_of_le hi h.size) hs).trans (h.block i hi hs)⟩
theorem Ext.off {a w : World} (h : Ext a w) (S : Nat → Prop) : Off S a w := ⟨h.below.os, h.below.tape, h.below.output, h.size, fun _ hk _ => h.at hk⟩
theorem Off.ext {S : Nat → Prop} {x a w : World} (hx : Ext x a) (h : Off S a w) (hS : ∀ k, S k → x.heap.size ≤ k) : Ext x w :=
  .of ⟨h.os.trans hx.below.os, h.tape.trans hx.below.tape, h.output.trans hx.below.output, Nat.le_trans hx.size h.size, fun k hk => (h.block k (Nat.lt_of_lt_of_le hk hx.size) (fun hs => by have := hS k hs; omega)).trans (hx.at hk)⟩
theorem Off.cell {S : Nat → Prop} {a w : World} (h : Off S a w) {b : Nat} (hb : b < a.heap.size) (hs : ¬ S b) (o : Nat) : w.cell? ⟨b, o, none⟩ = a.cell? ⟨b, o, none⟩ := World.cell?_of_block (a := ⟨b, o, none⟩) (h.block b hb hs)
theorem Off.own {S : Nat → Prop} {a w : World} (h : Off S a w) {B C : Nat} {e : TypeId} {size : Nat} {v : Value} {n : Nat} {xs : List Value} (ho : a.ownsRow B e size v n xs) (hS : ∀ k, S k → k < C) (hB : C ≤ B) : w.ownsRow B e size v n xs := by
  refine ⟨ho.1, ?_⟩
  rcases ho.2 with hn | ⟨g, cap, cur, hv, hb, hg, r⟩
  · exact .inl hn
  · refine .inr ⟨g, cap, cur, hv, hb, ?_, r⟩
    rw [h.block g (row_lt hg) (fun hs => by have := hS g hs; omega)]
    exact hg
theorem Off.mono {S T : Nat → Prop} {a w : World} (h : Off S a w) (hS : ∀ k, S k → T k) : Off T a w := ⟨h.os, h.tape, h.output, h.size, fun k hk hs => h.block k hk (fun h => hs (hS k h))⟩
theorem Off.set {S : Nat → Prop} {a w : World} (h : Off S a w) {p : Addr} (hp : S p.block) (u : Value) : Off S a (w.setCell p u) := by
  refine h.trans ⟨rfl, rfl, rfl, by simp, fun k _ hs => heap_setCell_other w p k u (fun e => hs (by rw [e]; exact hp))⟩
theorem own_cap2 {w : World} {B : Nat} {e : TypeId} {size : Nat} {ao : Option Addr} {n cap : Nat} {xs : List Value} (h : w.ownsRow B e size (.slice ao n cap) n xs) : n ≤ cap := by
  rcases h.2 with ⟨hv, hn⟩ | ⟨g, c, cur, hv, hb, hg, hn, _⟩
  · injection hv with _ h1 h2; omega
  · injection hv with _ _ h2; omega
theorem ints_one (L : List Nat) : ∀ u ∈ ints L, u.oneCell' = true := by
  intro u hu
  unfold ints at hu
  obtain ⟨k, _, rfl⟩ := List.mem_map.1 hu
  rfl
theorem nil_eq : ∀ w, (binOp .eql 75 (.slice none 0 0) (.slice none 0 0)).run Try.prog w = .ok (.bool true) w := fun w => by kernel_rfl
theorem nil_ne (g n cap : Nat) : ∀ w, (binOp .eql 75 (.slice (some ⟨g, 0, none⟩) n cap) (.slice none 0 0)).run Try.prog w = .ok (.bool false) w := fun w => by kernel_rfl
theorem clone_n (D : List Nat) (hl : D.length ≤ 1000) (B : Nat) (v : Value) (w : World) (ho : w.ownsRow B 3 1 v D.length (ints D)) :
    Calls Try.prog 120 #[v] w fun e w' => ∃ u, e = .returned u ∧ Ext w w' ∧ w'.ownsRow w.heap.size 3 1 u D.length (ints D) := by
  obtain ⟨i0, hi, iz0, iz1, iz2⟩ := info_parts info_int
  have HO := Lib.hid ho
  rcases ho.2 with ⟨hv, hn⟩ | ⟨g, cap, cur, hv, hb, hg, hn, _⟩
  · clear ho
    subst hv
    have HD := Lib.hid (List.eq_nil_of_length_eq_zero hn)
    clear hn
    have he := nil_eq
    go_enter Try.func120, Try.ntmps120
    go_wp2
    go_returns
    exact ⟨_, rfl, (by (repeat' (first | (with_reducible exact Ext.refl _) | (with_reducible assumption) | (with_reducible refine Ext.alloc ?_ _) | (with_reducible refine Ext.drew ?_) | (with_reducible refine Ext.drewN ?_ _) | (with_reducible refine Ext.setCell ?_ ?_ _) | (with_reducible refine Ext.trans ?_ (by assumption)))) <;> (first | (with_reducible assumption) | omega | (simp; done) | (simp; omega))), by rw [HD.out]; exact World.ownsRow_nil _ _ _ _⟩
  · clear ho
    subst hv
    have hgl := row_lt hg
    clear hg
    have HN := Lib.hid (show ∀ (j : Nat) (u : Value), (ints D)[j]? = some u → (w.alloc (.cells #[] 3)).cell? ((⟨g, 0, none⟩ : Addr).add j) = some u from fun j u h => by
      rw [Go.WideShapes.add_plain, Nat.zero_add]
      exact (((Ext.refl w).alloc _).cells g _ hgl).trans ((HO.out.cellAt j (by have := (List.getElem?_eq_some_iff.1 h).1; rw [ints_length] at this; omega)).trans h))
    have HE := Lib.hid (own_empty w 3 1 w.heap.size (Nat.le_refl _) rfl)
    have H1 := Lib.hid (ints_one D)
    have H2 := Lib.hid (ints_length D)
    have he := nil_ne g D.length cap
    go_enter Try.func120, Try.ntmps120
    go_wp2_with (at_builtin; refine wpList_append_own _ (by rfl) _ _ 75 (by rfl) w.heap.size 3 i0 (.int .i64 0) 1 8 Try.underlying75 hi iz0 iz1 iz2 (by rfl) (by decide) _ _ _ (by rfl) HE.out ⟨g, 0, none⟩ D.length cap (ints D) (by rfl) (by rw [H2.out, Nat.mul_one]) HN.out H1.out (by unfold maxLen; omega) (by omega) (by simp) ?_; intro v1 w2 hown hgrow _)
    have HX := Lib.hid (show Ext w w2 from .of (((Ext.refl w).alloc (.cells #[] 3)).below.grown hgrow (by simp) (fun k hk => by have := (HE.out.lt k hk).1; omega)))
    rw [Nat.zero_add, List.nil_append] at hown
    go_returns
    exact ⟨_, rfl, HX.out, hown⟩
end Go.Proofs.Ytiimkdakpdmblaa
