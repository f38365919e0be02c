/- Off0: contracts of functions, and lemmas, for this seat. Conditions: as each states. -/
import Derived.Test.YtlifhoajamnehaaOwn
import Derived.Test.YtlifhoajamnehaaSl
set_option linter.unusedVariables false
set_option maxRecDepth 100000
set_option maxHeartbeats 1000000
namespace Go.Proofs.Ytlifhoajamnehaa
open Go Go.RowKit Instr
/-! a world in which some blocks alone may have been written -/
structure Off (S : Nat → Prop) (a w : World) : Prop where
  os : w.os = a.os
  tape : w.tape = a.tape
  output : w.output = a.output
  size : a.heap.size ≤ w.heap.size
  block : ∀ k, k < a.heap.size → ¬ S k → w.heap[k]? = a.heap[k]?
theorem Off.refl (S : Nat → Prop) (w : World) : Off S w w := ⟨rfl, rfl, rfl, Nat.le_refl _, fun _ _ _ => rfl⟩
theorem Off.trans {S : Nat → Prop} {a b c : World} (h : Off S a b) (k : Off S b c) : Off S a c :=
  ⟨k.os.trans h.os, k.tape.trans h.tape, k.output.trans h.output, Nat.le_trans h.size k.size, fun i hi hs => (k.block i (Nat.lt_of_lt_of_le hi h.size) hs).trans (h.block i hi hs)⟩
theorem Ext.off {a w : World} (h : Ext a w) (S : Nat → Prop) : Off S a w := ⟨h.below.os, h.below.tape, h.below.output, h.size, fun _ hk _ => h.at hk⟩
theorem Off.ext {S : Nat → Prop} {x a w : World} (hx : Ext x a) (h : Off S a w) (hS : ∀ k, S k → x.heap.size ≤ k) : Ext x w :=
  .of ⟨h.os.trans hx.below.os, h.tape.trans hx.below.tape, h.output.trans hx.below.output, Nat.le_trans hx.size h.size, fun k hk => (h.block k (Nat.lt_of_lt_of_le hk hx.size) (fun hs => by have := hS k hs; omega)).trans (hx.at hk)⟩
theorem Off.cell {S : Nat → Prop} {a w : World} (h : Off S a w) {b : Nat} (hb : b < a.heap.size) (hs : ¬ S b) (o : Nat) : w.cell? ⟨b, o, none⟩ = a.cell? ⟨b, o, none⟩ := World.cell?_of_block (a := ⟨b, o, none⟩) (h.block b hb hs)
theorem Off.own {S : Nat → Prop} {a w : World} (h : Off S a w) {B C : Nat} {e : TypeId} {size : Nat} {v : Value} {n : Nat} {xs : List Value} (ho : a.ownsRow B e size v n xs) (hS : ∀ k, S k → k < C) (hB : C ≤ B) : w.ownsRow B e size v n xs := by
  refine ⟨ho.1, ?_⟩
  rcases ho.2 with hn | ⟨g, cap, cur, hv, hb, hg, r⟩
  · exact .inl hn
  · refine .inr ⟨g, cap, cur, hv, hb, ?_, r⟩
    rw [h.block g (row_lt hg) (fun hs => by have := hS g hs; omega)]
    exact hg
theorem Off.mono {S T : Nat → Prop} {a w : World} (h : Off S a w) (hS : ∀ k, S k → T k) : Off T a w := ⟨h.os, h.tape, h.output, h.size, fun k hk hs => h.block k hk (fun h => hs (hS k h))⟩
theorem Off.set {S : Nat → Prop} {a w : World} (h : Off S a w) {p : Addr} (hp : S p.block) (u : Value) : Off S a (w.setCell p u) := by
  refine h.trans ⟨rfl, rfl, rfl, by simp, fun k _ hs => heap_setCell_other w p k u (fun e => hs (by rw [e]; exact hp))⟩
end Go.Proofs.Ytlifhoajamnehaa
