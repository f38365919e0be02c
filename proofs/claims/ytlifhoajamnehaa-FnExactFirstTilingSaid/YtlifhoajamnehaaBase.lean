/- Base: contracts of functions, and lemmas, for this seat. Conditions: as each states. -/
import Derived.Test.YtlifhoajamnehaaProg
import Derived.Test.YtlifhoajamnehaaReg
import Derived.Test.YtlifhoajamnehaaMath
import Derived.Outline
import Derived.Lib.Hide
import Derived.Laws.BitsAllLaws
set_option linter.unusedVariables false
set_option maxRecDepth 100000
set_option maxHeartbeats 1000000
namespace Go.Proofs.Ytlifhoajamnehaa
open Go Go.RowKit
/-! words of the walks -/
theorem ret_int {k : IntKind} {a b : Int} (h : a = b) : Ending.returned (.int k a) = .returned (.int k b) := by rw [h]
theorem ret_bool {a b : Bool} (h : a = b) : Ending.returned (.bool a) = .returned (.bool b) := by rw [h]
theorem val_int {k : IntKind} {a b : Int} (h : a = b) : Value.int k a = .int k b := by rw [h]

theorem ret2_int {k : IntKind} {a b : Int} {v : Value} (h : a = b) : Ending.returned (.tuple #[.int k a, v]) = .returned (.tuple #[.int k b, v]) := by rw [h]
theorem ret2_ints {k j : IntKind} {a b c d : Int} (h : a = b) (h' : c = d) : Ending.returned (.tuple #[.int k a, .int j c]) = .returned (.tuple #[.int k b, .int j d]) := by rw [h, h']
theorem ret2_bool {a b : Bool} {v : Value} (h : a = b) : Ending.returned (.tuple #[.bool a, v]) = .returned (.tuple #[.bool b, v]) := by rw [h]
theorem nat_int {a b : Nat} (h : a = b) : (a : Int) = (b : Int) := by rw [h]

theorem sheet_eq {a0 a1 a2 a3 a4 a5 b0 b1 b2 b3 b4 b5 : Int} (h0 : a0 = b0) (h1 : a1 = b1) (h2 : a2 = b2) (h3 : a3 = b3) (h4 : a4 = b4) (h5 : a5 = b5) :
    Ending.returned (.agg #[.int .i64 a0, .int .i64 a1, .int .i64 a2, .int .i64 a3, .int .i64 a4, .int .i64 a5]) = .returned (.agg #[.int .i64 b0, .int .i64 b1, .int .i64 b2, .int .i64 b3, .int .i64 b4, .int .i64 b5]) := by rw [h0, h1, h2, h3, h4, h5]

/-! numbers of the kind u64 -/
theorem or64 {a b : Nat} (ha : a < 68719476736) (hb : b < 68719476736) : bits .or .u64 (a : Int) (b : Int) = ((a ||| b : Nat) : Int) := u64_or_nat a b (by omega) (by omega)
theorem and64 {a b : Nat} (ha : a < 68719476736) (hb : b < 68719476736) : bits .and .u64 (a : Int) (b : Int) = ((a &&& b : Nat) : Int) := u64_and_nat a b (by omega) (by omega)
theorem xor64 {a b : Nat} (ha : a < 68719476736) (hb : b < 68719476736) : bits .xor .u64 (a : Int) (b : Int) = ((a ^^^ b : Nat) : Int) := u64_xor_nat a b (by omega) (by omega)

/-- what a bit test reads -/
theorem has_bit (n k : Nat) (hn : n < 68719476736) : (bits .and .u64 ((n : Int) / 2 ^ k) 1 == 1) = n.testBit k := by
  have e : ((n : Int) / 2 ^ k) = ((n / 2 ^ k : Nat) : Int) := by simp
  have hle : n / 2 ^ k ≤ n := Nat.div_le_self _ _
  rw [e, show (1 : Int) = ((1 : Nat) : Int) from rfl, u64_and_nat _ _ (by omega) (by omega), nat_mask1, Nat.testBit_eq_decide_div_mod_eq, Bool.eq_iff_iff]
  simp
  omega
theorem bit_put (k : Nat) (hk : k < 36) : IntKind.u64.wrap (2 ^ k) = ((2 ^ k : Nat) : Int) := by
  have := pow36 hk
  rw [show ((2 : Int) ^ k) = ((2 ^ k : Nat) : Int) by simp]
  refine IntWalk.u64_in _ ⟨Int.natCast_nonneg _, ?_⟩
  generalize 2 ^ k = m at *
  omega
/-- what is left by 6 -/
def m6 (n : Int) : Nat := (n % 6).toNat
theorem m6_lt (n : Int) : m6 n < 6 := by unfold m6; omega
theorem m6_eq (n : Int) : ((m6 n : Nat) : Int) = n % 6 := by unfold m6; omega
theorem rest_val (n : Int) : (wrap64 (n.tmod 6 + 6)).tmod 6 = n % 6 := by
  have h1 := Int.tmod_lt_of_pos n (show (0 : Int) < 6 by omega)
  have h2 := Int.lt_tmod_of_pos n (show (0 : Int) < 6 by omega)
  rw [IntWalk.wrap64_in _ (by omega), Int.tmod_eq_emod_of_nonneg (by omega)]
  rcases Int.le_total 0 n with h | h
  · rw [Int.tmod_eq_emod_of_nonneg h]; omega
  · rw [Int.tmod_eq_emod]; split <;> omega
theorem get6 (r : Nat → Int) (k : Nat) (hk : k < 6) : (#[.int .i64 (r 0), .int .i64 (r 1), .int .i64 (r 2), .int .i64 (r 3), .int .i64 (r 4), .int .i64 (r 5)] : Array Value)[k]? = some (.int .i64 (r k)) := by
  match k, hk with
  | 0, _ => rfl
  | 1, _ => rfl
  | 2, _ => rfl
  | 3, _ => rfl
  | 4, _ => rfl
  | 5, _ => rfl
theorem cell6_at (w : World) (r : Nat → Int) (t : TypeId) (k : Nat) (hk : k < 6) : (w.alloc (.cells #[.int .i64 (r 0), .int .i64 (r 1), .int .i64 (r 2), .int .i64 (r 3), .int .i64 (r 4), .int .i64 (r 5)] t)).cell? ⟨w.heap.size, k, none⟩ = some (.int .i64 (r k)) := (World.cell?_alloc_at (w := w) _ _ _ _ rfl).trans (get6 r k hk)
theorem cell6_1 (w : World) (r s : Nat → Int) (t : TypeId) (k : Nat) (hk : k < 6) : ((w.alloc (.cells #[.int .i64 (r 0), .int .i64 (r 1), .int .i64 (r 2), .int .i64 (r 3), .int .i64 (r 4), .int .i64 (r 5)] t)).alloc (.cells #[.int .i64 (s 0), .int .i64 (s 1), .int .i64 (s 2), .int .i64 (s 3), .int .i64 (s 4), .int .i64 (s 5)] t)).cell? ⟨w.heap.size, k, none⟩ = some (.int .i64 (r k)) := (World.cell?_alloc_past (w := w.alloc (.cells #[.int .i64 (r 0), .int .i64 (r 1), .int .i64 (r 2), .int .i64 (r 3), .int .i64 (r 4), .int .i64 (r 5)] t)) _ _ _ (by simp)).trans (cell6_at w r t k hk)
theorem cell6_2 (w : World) (r s : Nat → Int) (t : TypeId) (k : Nat) (hk : k < 6) : ((w.alloc (.cells #[.int .i64 (r 0), .int .i64 (r 1), .int .i64 (r 2), .int .i64 (r 3), .int .i64 (r 4), .int .i64 (r 5)] t)).alloc (.cells #[.int .i64 (s 0), .int .i64 (s 1), .int .i64 (s 2), .int .i64 (s 3), .int .i64 (s 4), .int .i64 (s 5)] t)).cell? ⟨w.heap.size + 1, k, none⟩ = some (.int .i64 (s k)) := (World.cell?_alloc_at (w := w.alloc (.cells #[.int .i64 (r 0), .int .i64 (r 1), .int .i64 (r 2), .int .i64 (r 3), .int .i64 (r 4), .int .i64 (r 5)] t)) _ _ _ _ (by simp)).trans (get6 s k hk)
/-! an array of six numbers in memory -/
def Arr (w : World) (b : Nat) (g : Nat → Int) : Prop := ∀ j, j < 6 → w.cell? ⟨b, j, none⟩ = some (.int .i64 (g j)) ∧ w.frozen? ⟨b, j, none⟩ = false
theorem Arr.set {w : World} {b : Nat} {g : Nat → Int} (h : Arr w b g) {p : Nat} (hp : p < 6) (v : Int) : Arr (w.setCell ⟨b, p, none⟩ (.int .i64 v)) b (fun j => if j = p then v else g j) := by
  intro j hj
  refine ⟨?_, by rw [World.frozen?_setCell]; exact (h j hj).2⟩
  by_cases e : j = p
  · subst e
    show _ = some (Value.int .i64 (if j = j then v else g j))
    rw [if_pos rfl]
    exact World.cell?_setCell_same _ _ _ (h j hj).1
  · show _ = some (Value.int .i64 (if j = p then v else g j))
    rw [if_neg e]
    exact (World.cell?_setCell_other _ _ _ _ (by intro h; injection h with _ h2; exact e h2.symm)).trans (h j hj).1
theorem Arr.far {w : World} {b : Nat} {g : Nat → Int} (h : Arr w b g) {p : Addr} (hp : p.block ≠ b) (v : Value) : Arr (w.setCell p v) b g := fun j hj =>
  ⟨(World.cell?_setCell_other _ _ _ _ (by intro h; subst h; exact hp rfl)).trans (h j hj).1, by rw [World.frozen?_setCell]; exact (h j hj).2⟩
theorem Arr.drew {w : World} {b : Nat} {g : Nat → Int} (h : Arr w b g) : Arr w.drew b g := h
theorem Arr.drewN {w : World} {b : Nat} {g : Nat → Int} (h : Arr w b g) (n : Nat) : Arr (w.drewN n) b g := h
theorem Arr.ext {w w' : World} {b : Nat} {g : Nat → Int} (h : Arr w b g) (hx : Ext w w') (hb : b < w.heap.size) : Arr w' b g := fun j hj =>
  ⟨(hx.cells _ _ hb).trans (h j hj).1, (hx.frees _ _ hb).trans (h j hj).2⟩
theorem Arr.alloc {w : World} {b : Nat} {g : Nat → Int} (h : Arr w b g) (o : Obj) (hb : b < w.heap.size) : Arr (w.alloc o) b g := h.ext ((Ext.refl w).alloc o) hb
theorem Arr.new (w : World) (r : Nat → Int) (t : TypeId) {b : Nat} (hb : b = w.heap.size) : Arr (w.alloc (.cells #[.int .i64 (r 0), .int .i64 (r 1), .int .i64 (r 2), .int .i64 (r 3), .int .i64 (r 4), .int .i64 (r 5)] t)) b r := fun j hj => by
  subst hb
  exact ⟨cell6_at w r t j hj, World.frozen?_alloc_at (w := w) _ _ _ _ rfl⟩
theorem Arr.new0 (w : World) (t : TypeId) {b : Nat} (hb : b = w.heap.size) : Arr (w.alloc (.cells #[.int .i64 0, .int .i64 0, .int .i64 0, .int .i64 0, .int .i64 0, .int .i64 0] t)) b (fun _ => 0) := Arr.new w (fun _ => 0) t hb
theorem Arr.all {w : World} {b : Nat} {g : Nat → Int} (h : Arr w b g) : (w.cell? ⟨b, 0, none⟩ = some (.int .i64 (g 0)) ∧ w.cell? ⟨b, 1, none⟩ = some (.int .i64 (g 1)) ∧ w.cell? ⟨b, 2, none⟩ = some (.int .i64 (g 2)) ∧ w.cell? ⟨b, 3, none⟩ = some (.int .i64 (g 3)) ∧ w.cell? ⟨b, 4, none⟩ = some (.int .i64 (g 4)) ∧ w.cell? ⟨b, 5, none⟩ = some (.int .i64 (g 5))) ∧
    w.frozen? ⟨b, 0, none⟩ = false ∧ w.frozen? ⟨b, 1, none⟩ = false ∧ w.frozen? ⟨b, 2, none⟩ = false ∧ w.frozen? ⟨b, 3, none⟩ = false ∧ w.frozen? ⟨b, 4, none⟩ = false ∧ w.frozen? ⟨b, 5, none⟩ = false :=
  ⟨⟨(h 0 (by omega)).1, (h 1 (by omega)).1, (h 2 (by omega)).1, (h 3 (by omega)).1, (h 4 (by omega)).1, (h 5 (by omega)).1⟩, (h 0 (by omega)).2, (h 1 (by omega)).2, (h 2 (by omega)).2, (h 3 (by omega)).2, (h 4 (by omega)).2, (h 5 (by omega)).2⟩
theorem Arr.store6 {w : World} {b : Nat} {g : Nat → Int} (h : Arr w b g) (v : Nat → Int) : ((((((w.setCell ⟨b, 0, none⟩ (.int .i64 (v 0))).setCell ⟨b, 1, none⟩ (.int .i64 (v 1))).setCell ⟨b, 2, none⟩ (.int .i64 (v 2))).setCell ⟨b, 3, none⟩ (.int .i64 (v 3))).setCell ⟨b, 4, none⟩ (.int .i64 (v 4))).setCell ⟨b, 5, none⟩ (.int .i64 (v 5))).cell? ⟨b, 0, none⟩ = some (.int .i64 (v 0)) ∧ ((((((w.setCell ⟨b, 0, none⟩ (.int .i64 (v 0))).setCell ⟨b, 1, none⟩ (.int .i64 (v 1))).setCell ⟨b, 2, none⟩ (.int .i64 (v 2))).setCell ⟨b, 3, none⟩ (.int .i64 (v 3))).setCell ⟨b, 4, none⟩ (.int .i64 (v 4))).setCell ⟨b, 5, none⟩ (.int .i64 (v 5))).cell? ⟨b, 1, none⟩ = some (.int .i64 (v 1)) ∧ ((((((w.setCell ⟨b, 0, none⟩ (.int .i64 (v 0))).setCell ⟨b, 1, none⟩ (.int .i64 (v 1))).setCell ⟨b, 2, none⟩ (.int .i64 (v 2))).setCell ⟨b, 3, none⟩ (.int .i64 (v 3))).setCell ⟨b, 4, none⟩ (.int .i64 (v 4))).setCell ⟨b, 5, none⟩ (.int .i64 (v 5))).cell? ⟨b, 2, none⟩ = some (.int .i64 (v 2)) ∧ ((((((w.setCell ⟨b, 0, none⟩ (.int .i64 (v 0))).setCell ⟨b, 1, none⟩ (.int .i64 (v 1))).setCell ⟨b, 2, none⟩ (.int .i64 (v 2))).setCell ⟨b, 3, none⟩ (.int .i64 (v 3))).setCell ⟨b, 4, none⟩ (.int .i64 (v 4))).setCell ⟨b, 5, none⟩ (.int .i64 (v 5))).cell? ⟨b, 3, none⟩ = some (.int .i64 (v 3)) ∧ ((((((w.setCell ⟨b, 0, none⟩ (.int .i64 (v 0))).setCell ⟨b, 1, none⟩ (.int .i64 (v 1))).setCell ⟨b, 2, none⟩ (.int .i64 (v 2))).setCell ⟨b, 3, none⟩ (.int .i64 (v 3))).setCell ⟨b, 4, none⟩ (.int .i64 (v 4))).setCell ⟨b, 5, none⟩ (.int .i64 (v 5))).cell? ⟨b, 4, none⟩ = some (.int .i64 (v 4)) ∧ ((((((w.setCell ⟨b, 0, none⟩ (.int .i64 (v 0))).setCell ⟨b, 1, none⟩ (.int .i64 (v 1))).setCell ⟨b, 2, none⟩ (.int .i64 (v 2))).setCell ⟨b, 3, none⟩ (.int .i64 (v 3))).setCell ⟨b, 4, none⟩ (.int .i64 (v 4))).setCell ⟨b, 5, none⟩ (.int .i64 (v 5))).cell? ⟨b, 5, none⟩ = some (.int .i64 (v 5)) :=
  ((((((h.set (p := 0) (by omega) (v 0)).set (p := 1) (by omega) (v 1)).set (p := 2) (by omega) (v 2)).set (p := 3) (by omega) (v 3)).set (p := 4) (by omega) (v 4)).set (p := 5) (by omega) (v 5)).all.1
theorem Arr.six {w : World} {b : Nat} {g : Nat → Int} (h : Arr w b g) (v : Nat → Int) : Arr (((((((w.setCell ⟨b, 0, none⟩ (.int .i64 (v 0))).setCell ⟨b, 1, none⟩ (.int .i64 (v 1))).setCell ⟨b, 2, none⟩ (.int .i64 (v 2))).setCell ⟨b, 3, none⟩ (.int .i64 (v 3))).setCell ⟨b, 4, none⟩ (.int .i64 (v 4))).setCell ⟨b, 5, none⟩ (.int .i64 (v 5)))) b v :=
  fun j hj => ⟨(by
    obtain ⟨r0, r1, r2, r3, r4, r5⟩ := h.store6 v
    match j, hj with
    | 0, _ => exact r0
    | 1, _ => exact r1
    | 2, _ => exact r2
    | 3, _ => exact r3
    | 4, _ => exact r4
    | 5, _ => exact r5), by simp only [World.frozen?_setCell]; exact (h j hj).2⟩
theorem Arr.congr {w : World} {b : Nat} {g h : Nat → Int} (a : Arr w b g) (e : ∀ j, j < 6 → g j = h j) : Arr w b h := fun j hj => by rw [← e j hj]; exact a j hj
/-! an array of two numbers -/
def Arr2 (w : World) (b : Nat) (g : Nat → Int) : Prop := ∀ j, j < 2 → w.cell? ⟨b, j, none⟩ = some (.int .i64 (g j)) ∧ w.frozen? ⟨b, j, none⟩ = false
theorem Arr2.ext {w w' : World} {b : Nat} {g : Nat → Int} (h : Arr2 w b g) (hx : Ext w w') (hb : b < w.heap.size) : Arr2 w' b g := fun j hj =>
  ⟨(hx.cells _ _ hb).trans (h j hj).1, (hx.frees _ _ hb).trans (h j hj).2⟩
theorem Arr2.new (w : World) (g : Nat → Int) (t : TypeId) {b : Nat} (hb : b = w.heap.size) : Arr2 (w.alloc (.cells #[.int .i64 (g 0), .int .i64 (g 1)] t)) b g := fun j hj => by
  subst hb
  refine ⟨(World.cell?_alloc_at (w := w) _ _ _ _ rfl).trans ?_, World.frozen?_alloc_at (w := w) _ _ _ _ rfl⟩
  match j, hj with
  | 0, _ => rfl
  | 1, _ => rfl
theorem Arr2.set {w : World} {b : Nat} {g : Nat → Int} (h : Arr2 w b g) {p : Nat} (hp : p < 2) (v : Int) : Arr2 (w.setCell ⟨b, p, none⟩ (.int .i64 v)) b (fun j => if j = p then v else g j) := by
  intro j hj
  refine ⟨?_, by rw [World.frozen?_setCell]; exact (h j hj).2⟩
  by_cases e : j = p
  · subst e
    show _ = some (Value.int .i64 (if j = j then v else g j))
    rw [if_pos rfl]
    exact World.cell?_setCell_same _ _ _ (h j hj).1
  · show _ = some (Value.int .i64 (if j = p then v else g j))
    rw [if_neg e]
    exact (World.cell?_setCell_other _ _ _ _ (by intro h; injection h with _ h2; exact e h2.symm)).trans (h j hj).1
theorem Arr2.far {w : World} {b : Nat} {g : Nat → Int} (h : Arr2 w b g) {p : Addr} (hp : p.block ≠ b) (v : Value) : Arr2 (w.setCell p v) b g := fun j hj =>
  ⟨(World.cell?_setCell_other _ _ _ _ (by intro h; subst h; exact hp rfl)).trans (h j hj).1, by rw [World.frozen?_setCell]; exact (h j hj).2⟩
theorem Arr2.all {w : World} {b : Nat} {g : Nat → Int} (h : Arr2 w b g) : (w.cell? ⟨b, 0, none⟩ = some (.int .i64 (g 0)) ∧ w.cell? ⟨b, 1, none⟩ = some (.int .i64 (g 1))) ∧ w.frozen? ⟨b, 0, none⟩ = false ∧ w.frozen? ⟨b, 1, none⟩ = false :=
  ⟨⟨(h 0 (by omega)).1, (h 1 (by omega)).1⟩, (h 0 (by omega)).2, (h 1 (by omega)).2⟩
theorem Arr2.two {w : World} {b : Nat} {g : Nat → Int} (h : Arr2 w b g) (x y : Int) : Arr2 ((w.setCell ⟨b, 0, none⟩ (.int .i64 x)).setCell ⟨b, 1, none⟩ (.int .i64 y)) b (fun j => if j = 1 then y else x) := fun j hj => by
  have k := ((h.set (p := 0) (by omega) x).set (p := 1) (by omega) y) j hj
  match j, hj with
  | 0, _ => exact k
  | 1, _ => exact k
theorem load_two {w : World} {b : Nat} {v : Nat → Int} (h : Arr2 w b v) : (loadVar 33 ⟨b, 0, none⟩).run Try.prog w = .ok (.agg #[.int .i64 (v 0), .int .i64 (v 1)]) w := by
  obtain ⟨⟨r0, r1⟩, _⟩ := h.all
  simp [go_sem, r0, r1]
theorem load_sheet {w : World} {b : Nat} {v : Nat → Int} (h : Arr w b v) : (loadVar 26 ⟨b, 0, none⟩).run Try.prog w = .ok (.agg #[.int .i64 (v 0), .int .i64 (v 1), .int .i64 (v 2), .int .i64 (v 3), .int .i64 (v 4), .int .i64 (v 5)]) w := by
  obtain ⟨⟨r0, r1, r2, r3, r4, r5⟩, _⟩ := h.all
  simp [go_sem, r0, r1, r2, r3, r4, r5]
theorem ret_cell {P : Program} {fn : Func} {p : Tmp} {ty : TypeId} {tmps : Array Value} {a : Addr} {v : Value} {w : World} (h : fn.results = #[.cell p ty]) (hp : tmps.getD p undef = .pointer (some a)) (hl : (loadVar ty a).run P w = .ok v w) : (results fn tmps).run P w = .ok v w := by
  have hp' : tmps[p]?.getD undef = .pointer (some a) := by simpa using hp
  simp only [results, h]
  have e : (asAddr (.pointer (some a))).run P w = .ok a w := rfl
  simp [Sem.run_bind, Result.andThen, hp', hl, e]
theorem ret_cell_tmp {P : Program} {fn : Func} {p u : Tmp} {ty : TypeId} {tmps : Array Value} {a : Addr} {v x : Value} {w : World} (h : fn.results = #[.cell p ty, .tmp u]) (hp : tmps.getD p undef = .pointer (some a)) (hx : tmps.getD u undef = x) (hl : (loadVar ty a).run P w = .ok v w) : (results fn tmps).run P w = .ok (.tuple #[v, x]) w := by
  have hp' : tmps[p]?.getD undef = .pointer (some a) := by simpa using hp
  have hx' : tmps[u]?.getD undef = x := by simpa using hx
  simp only [results, h]
  have e : (asAddr (.pointer (some a))).run P w = .ok a w := rfl
  simp [Sem.run_bind, Result.andThen, hp', hl, hx', e]
def inR (x a b : Int) : Bool := decide (a ≤ x) && decide (x ≤ b)
theorem inR_iff (x a b : Int) : inR x a b = true ↔ a ≤ x ∧ x ≤ b := by unfold inR; rw [Bool.and_eq_true, decide_eq_true_eq, decide_eq_true_eq]
theorem l1In_any (x a b : Int) (w : World) : Calls Try.prog 95 #[.int .i64 x, .int .i64 a, .int .i64 b] w fun e w' => e = .returned (.bool (inR x a b)) ∧ w = w' := by
  go_enter Try.func95, Try.ntmps95
  go_wp2
  all_goals (go_ret; exact ⟨ret_bool (by unfold inR; simp; omega), rfl⟩)
theorem l1In_is (x a c : Int) (b : Bool) (h : inR x a c = b) (w : World) : Calls Try.prog 95 #[.int .i64 x, .int .i64 a, .int .i64 c] w fun e w' => e = .returned (.bool b) ∧ w = w' := h ▸ l1In_any x a c w
theorem l2Mod_any (n : Int) (w : World) : Calls Try.prog 138 #[.int .i64 n] w fun e w' => e = .returned (.int .i64 ((m6 n : Nat) : Int)) ∧ w = w' := by
  go_enter Try.func138, Try.ntmps138
  go_wp2
  go_ret
  exact ⟨ret_int ((rest_val n).trans (m6_eq n).symm), rfl⟩
theorem rest_any (n : Int) (w : World) : Calls Try.prog 140 #[.int .i64 n] w fun e w' => e = .returned (.int .i64 ((m6 n : Nat) : Int)) ∧ w = w' := by
  go_enter Try.func140, Try.ntmps140
  go_wp2
  go_ret
  exact ⟨ret_int ((rest_val n).trans (m6_eq n).symm), rfl⟩
theorem has_any (n k : Nat) (hn : n < 68719476736) (hk : k < 36) (w : World) : Calls Try.prog 157 #[.int .u64 (n : Int), .int .i64 (k : Int)] w fun e w' => e = .returned (.bool (n.testBit k)) ∧ w = w' := by
  go_enter Try.func157, Try.ntmps157
  go_wp2
  go_ret
  exact ⟨ret_bool (has_bit n k hn), rfl⟩
end Go.Proofs.Ytlifhoajamnehaa
