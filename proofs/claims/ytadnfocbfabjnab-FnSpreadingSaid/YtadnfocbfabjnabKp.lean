/- Kp: contracts of functions, and lemmas, for this seat. Conditions: as each states. -/
import Derived.Test.YtadnfocbfabjnabBase
set_option linter.unusedVariables false
set_option maxRecDepth 100000
set_option maxHeartbeats 1000000
namespace Go.Proofs.Ytadnfocbfabjnab
open Go Go.RowKit
/-! what a law keeps of its own sheets from call to call -/
def Kp (w : World) (b : Nat) (g : Nat → Int) : Prop := Arr w b g ∧ b < w.heap.size
theorem Kp.ext {w w' : World} {b : Nat} {g : Nat → Int} (h : Kp w b g) (hx : Ext w w') : Kp w' b g := ⟨h.1.ext hx h.2, Nat.lt_of_lt_of_le h.2 hx.size⟩
theorem Kp.c6 {w : World} {b : Nat} {g : Nat → Int} (h : Kp w b g) : b < w.heap.size ∧ w.cell? ⟨b, 0, none⟩ = some (.int .i64 (g 0)) ∧ w.cell? ⟨b, 1, none⟩ = some (.int .i64 (g 1)) ∧ w.cell? ⟨b, 2, none⟩ = some (.int .i64 (g 2)) ∧ w.cell? ⟨b, 3, none⟩ = some (.int .i64 (g 3)) ∧ w.cell? ⟨b, 4, none⟩ = some (.int .i64 (g 4)) ∧ w.cell? ⟨b, 5, none⟩ = some (.int .i64 (g 5)) :=
  ⟨h.2, h.1.all.1⟩
theorem Kp.new1 {w w' : World} {T : TypeId} (g : Nat → Int) (h : Ext (w.alloc (.cells #[.int .i64 (g 0), .int .i64 (g 1), .int .i64 (g 2), .int .i64 (g 3), .int .i64 (g 4), .int .i64 (g 5)] T)) w') : Kp w' w.heap.size g :=
  Kp.ext (w := w.alloc (.cells #[.int .i64 (g 0), .int .i64 (g 1), .int .i64 (g 2), .int .i64 (g 3), .int .i64 (g 4), .int .i64 (g 5)] T)) ⟨Arr.new w g T rfl, by simp⟩ h
theorem Kp.new21 {w w' : World} {T : TypeId} {o : Obj} (g : Nat → Int) (h : Ext ((w.alloc (.cells #[.int .i64 (g 0), .int .i64 (g 1), .int .i64 (g 2), .int .i64 (g 3), .int .i64 (g 4), .int .i64 (g 5)] T)).alloc o) w') : Kp w' w.heap.size g := Kp.new1 g (((Ext.refl _).alloc o).trans h)
theorem Kp.new22 {w w' : World} {T : TypeId} {o : Obj} (g : Nat → Int) (h : Ext ((w.alloc o).alloc (.cells #[.int .i64 (g 0), .int .i64 (g 1), .int .i64 (g 2), .int .i64 (g 3), .int .i64 (g 4), .int .i64 (g 5)] T)) w') : Kp w' (w.heap.size + 1) g := by
  have := Kp.new1 g h
  simp at this
  exact this
theorem Kp.new31 {w w' : World} {T : TypeId} {o p : Obj} (g : Nat → Int) (h : Ext (((w.alloc (.cells #[.int .i64 (g 0), .int .i64 (g 1), .int .i64 (g 2), .int .i64 (g 3), .int .i64 (g 4), .int .i64 (g 5)] T)).alloc o).alloc p) w') : Kp w' w.heap.size g := Kp.new21 g (((Ext.refl _).alloc p).trans h)
theorem Kp.new32 {w w' : World} {T : TypeId} {o p : Obj} (g : Nat → Int) (h : Ext (((w.alloc o).alloc (.cells #[.int .i64 (g 0), .int .i64 (g 1), .int .i64 (g 2), .int .i64 (g 3), .int .i64 (g 4), .int .i64 (g 5)] T)).alloc p) w') : Kp w' (w.heap.size + 1) g := Kp.new22 g (((Ext.refl _).alloc p).trans h)
theorem Kp.new33 {w w' : World} {T : TypeId} {o p : Obj} (g : Nat → Int) (h : Ext (((w.alloc o).alloc p).alloc (.cells #[.int .i64 (g 0), .int .i64 (g 1), .int .i64 (g 2), .int .i64 (g 3), .int .i64 (g 4), .int .i64 (g 5)] T)) w') : Kp w' (w.heap.size + 1 + 1) g := by
  have := Kp.new1 g h
  simp at this
  exact this
theorem Ext.link0 {a w w' : World} (h : Ext a w) (k : Ext w w') : Ext w w' := k
theorem Ext.link1 {a w w' : World} {o : Obj} (h : Ext a w) (k : Ext (w.alloc o) w') : Ext w w' := ((Ext.refl w).alloc o).trans k
theorem Ext.link2 {a w w' : World} {o p : Obj} (h : Ext a w) (k : Ext ((w.alloc o).alloc p) w') : Ext w w' := (((Ext.refl w).alloc o).alloc p).trans k
theorem Ext.link3 {a w w' : World} {o p q : Obj} (h : Ext a w) (k : Ext (((w.alloc o).alloc p).alloc q) w') : Ext w w' := ((((Ext.refl w).alloc o).alloc p).alloc q).trans k
end Go.Proofs.Ytadnfocbfabjnab
