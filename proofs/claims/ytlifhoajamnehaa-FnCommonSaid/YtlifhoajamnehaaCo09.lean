/- Raw0 Byt Cur CurS: contracts of functions, and lemmas, for this seat. Conditions: as each states. -/
import Derived.Test.YtlifhoajamnehaaCo08
import Derived.Test.YtlifhoajamnehaaCo05
import Derived.Deep.Slices
import Derived.BigQuiet
set_option linter.unusedVariables false
set_option linter.unusedSimpArgs false
set_option maxRecDepth 100000
set_option maxHeartbeats 1000000
namespace Go.Proofs.Ytlifhoajamnehaa
open Go Go.RowKit Go.ChangeShapes Go.WideShapes
/-! a slice that is handed in: numbers in a row, wherever it lies -/
end Go.Proofs.Ytlifhoajamnehaa
set_option linter.unusedVariables false
set_option linter.unusedSimpArgs false
set_option maxRecDepth 100000
set_option maxHeartbeats 1000000
namespace Go.Proofs.Ytlifhoajamnehaa
open Go Go.RowKit Go.ChangeShapes Go.WideShapes
def capOk (v : Value) : Prop := ∀ a n c, v = .slice a n c → n ≤ c
/-! a slice of bytes, wherever it lies below block C -/
def Byt (w : World) (C : Nat) (v : Value) (n : Nat) : Prop :=
  ∃ ao cap, v = .slice ao n cap ∧ (0 < n → ∃ b o, ao = some ⟨b, o, none⟩ ∧ b < C ∧ ∀ j, j < n → ∃ x : Nat, x < 256 ∧ w.cell? ⟨b, o + j, none⟩ = some (.int .u8 (x : Nat)))
theorem open_bytes {H : Type} {enc : TypeId × Value → H} {P : Program} {w : World} {base b0 : Nat} {spare : Nat → Bool} {held : Bool} {r : Reach} {t e : TypeId} {v : Value} {d : DataW H} {p : List MemPlace}
    (ht : P.underlying t = some (.slice e)) (he : P.underlying e = some (.int .u8)) (hc : P.cellsOf e = 1) (hv : Value.okWide P w r b0 t v) (h : DataW.Trod enc P w base spare held t v d p) :
    ∃ n : Nat, Byt w w.heap.size v n ∧ capOk v := by
  obtain ⟨ao', n', cap', rfl⟩ := okWide_slice ht hv
  obtain ⟨fuel, hf⟩ := h
  rcases Go.Deep.open_slice ht hf with ⟨h1, _⟩ | ⟨a, len, cap, k, fu, D, Pl, h1, hb, hl, hmx, hk, hz, hx⟩
  · simp only [Value.cells] at h1
    obtain ⟨rfl, rfl, rfl⟩ : ao' = none ∧ n' = 0 ∧ cap' = 0 := by simpa using h1
    exact ⟨0, ⟨none, 0, rfl, fun h => absurd h (by omega)⟩, fun _ _ _ h => by injection h; omega⟩
  · simp only [Value.cells] at h1
    obtain ⟨rfl, rfl, rfl⟩ : ao' = some a ∧ n' = len ∧ cap' = cap := by simpa using h1
    have hlk : n' ≤ k := by rw [hk]; split <;> omega
    rw [hc] at hx
    have key : ∀ i, i < n' → ∃ x : Nat, x < 256 ∧ w.cell? (a.add i) = some (.int .u8 (x : Nat)) := by
      intro i hi
      obtain ⟨cs', h2, h3⟩ := hx i (by omega)
      obtain ⟨x, h5, _, h6⟩ := DataW.trod_int he h3
      obtain ⟨_, hlen, hcell⟩ := World.cells?_some h2
      have := hcell 0 (by omega)
      rw [h5] at this
      obtain ⟨h7, h8⟩ := bounds_u8 h6
      obtain ⟨z, rfl⟩ : ∃ z : Nat, x = z := ⟨x.toNat, by omega⟩
      refine ⟨z, by omega, ?_⟩
      rw [Nat.mul_one] at this
      simpa [Go.Deep.add_add] using this
    refine ⟨n', ⟨some a, cap', rfl, fun h0 => ?_⟩, fun _ _ _ h => by injection h; omega⟩
    obtain ⟨b, off, spot⟩ := a
    have hspot : spot = none := by obtain ⟨x, _, h⟩ := key 0 h0; simpa [Addr.add] using World.cell?_spot h
    subst hspot
    have hall : ∀ j, j < n' → ∃ x : Nat, x < 256 ∧ w.cell? ⟨b, off + j, none⟩ = some (.int .u8 (x : Nat)) := fun j hj => by rw [← Go.WideShapes.add_plain]; exact key j hj
    refine ⟨b, off, rfl, ?_, hall⟩
    obtain ⟨x, _, this⟩ := hall 0 h0
    rcases Nat.lt_or_ge b w.heap.size with h | h
    · exact h
    · rw [World.cell?, Array.getElem?_eq_none h] at this; cases this
theorem byt_ext {w w' : World} {C : Nat} {v : Value} {n : Nat} (h : Byt w C v n) (hC : C ≤ w.heap.size) (hx : Ext w w') : Byt w' C v n := by
  obtain ⟨ao, cap, hv, hs⟩ := h
  refine ⟨ao, cap, hv, fun h0 => ?_⟩
  obtain ⟨b, o, e, hb, hc⟩ := hs h0
  exact ⟨b, o, e, hb, fun j hj => by obtain ⟨x, hx1, hx2⟩ := hc j hj; exact ⟨x, hx1, (hx.cells _ _ (Nat.lt_of_lt_of_le hb hC)).trans hx2⟩⟩
theorem byt_mono {w : World} {C D : Nat} {v : Value} {n : Nat} (h : Byt w C v n) (hC : C ≤ D) : Byt w D v n := by
  obtain ⟨ao, cap, hv, hs⟩ := h
  refine ⟨ao, cap, hv, fun h0 => ?_⟩
  obtain ⟨b, o, e, hb, hc⟩ := hs h0
  exact ⟨b, o, e, by omega, hc⟩
theorem byt_off {S : Nat → Prop} {w w' : World} {C : Nat} {v : Value} {n : Nat} (h : Byt w C v n) (hC : C ≤ w.heap.size) (hS : ∀ k, S k → C ≤ k) (hx : Off S w w') : Byt w' C v n := by
  obtain ⟨ao, cap, hv, hs⟩ := h
  refine ⟨ao, cap, hv, fun h0 => ?_⟩
  obtain ⟨b, o, e, hb, hc⟩ := hs h0
  exact ⟨b, o, e, hb, fun j hj => by obtain ⟨x, hx1, hx2⟩ := hc j hj; exact ⟨x, hx1, (hx.cell (Nat.lt_of_lt_of_le hb hC) (fun hk => by have := hS b hk; omega) _).trans hx2⟩⟩
theorem under_u8 : Try.prog.underlying 5 = some (.int .u8) := Try.underlying5
theorem cells_u8 : Try.prog.cellsOf 5 = 1 := by kernel_rfl
end Go.Proofs.Ytlifhoajamnehaa
set_option linter.unusedVariables false
set_option linter.unusedSimpArgs false
set_option maxRecDepth 100000
set_option maxHeartbeats 2000000
namespace Go.Proofs.Ytlifhoajamnehaa
open Go Go.RowKit Instr
/-! the cursor of the draws: block c, at most m bytes taken -/
def Cur (c m : Nat) (w : World) : Prop :=
  c < w.heap.size ∧ (∀ o, w.frozen? ⟨c, o, none⟩ = false) ∧ ∃ (v : Value) (n a : Nat) (s : Int), Byt w c v n ∧ a ≤ m ∧ 0 ≤ s ∧ s ≤ 18446744073709551615 ∧
    w.cell? ⟨c, 0, none⟩ = some v ∧ w.cell? ⟨c, 1, none⟩ = some (.int .i64 (a : Nat)) ∧ w.cell? ⟨c, 2, none⟩ = some (.int .u64 s)
theorem cur_mono {c m k : Nat} {w : World} (h : Cur c m w) (hk : m ≤ k) : Cur c k w := by
  obtain ⟨h1, h2, v, n, a, s, h3, h4, r⟩ := h
  exact ⟨h1, h2, v, n, a, s, h3, by omega, r⟩
theorem wrapr (z : Int) : 0 ≤ IntKind.u64.wrap z ∧ IntKind.u64.wrap z ≤ 18446744073709551615 := by
  rw [IntKind.wrap_u64]
  omega
theorem byte_of {z : Int} (h0 : 0 ≤ z) (h1 : z ≤ 18446744073709551615) : ∃ x : Nat, wrap64 (bits .and .u64 z 255) = (x : Nat) ∧ x < 256 := by
  obtain ⟨k, rfl⟩ : ∃ k : Nat, z = k := ⟨z.toNat, by omega⟩
  have hb : bits .and .u64 ((k : Nat) : Int) 255 = ((k &&& 255 : Nat) : Int) := u64_and_nat k 255 (by omega) (by omega)
  have hl : k &&& 255 < 256 := Nat.lt_of_le_of_lt Nat.and_le_right (by decide)
  refine ⟨k &&& 255, ?_, hl⟩
  rw [hb]
  generalize k &&& 255 = u at *
  simp only [wrap64]
  omega
/-- what a step of the cursor leaves -/
theorem cur_next {c m n a : Nat} {v : Value} {s : Int} {w W : World} (q1 q2 : Nat) (h1 : c < w.heap.size) (h2 : ∀ o, w.frozen? ⟨c, o, none⟩ = false) (hb : Byt w c v n) (ha : a ≤ m) (c0 : w.cell? ⟨c, 0, none⟩ = some v) (c1 : w.cell? ⟨c, 1, none⟩ = some (.int .i64 (a : Nat))) (z : Int) (c2 : w.cell? ⟨c, 2, none⟩ = some (.int .u64 s))
    (hW : W = ((((w.drewN q1).setCell ⟨c, 1, none⟩ (.int .i64 ((a : Int) + 1))).setCell ⟨c, 2, none⟩ (.int .u64 (IntKind.u64.wrap z))).drewN q2)) : Cur c (m + 1) W ∧ Off (fun k => k = c) w W := by
  have hO : Off (fun k => k = c) w W := by
    subst hW
    exact (Off.set (S := fun k => k = c) (Off.set (S := fun k => k = c) (((Ext.refl w).drewN q1).off _) (p := ⟨c, 1, none⟩) rfl _) (p := ⟨c, 2, none⟩) rfl _).trans (((Ext.refl _).drewN q2).off _)
  have hB : Byt W c v n := byt_off hb (Nat.le_of_lt h1) (fun k hk => by omega) hO
  refine ⟨⟨Nat.lt_of_lt_of_le h1 hO.size, fun o => ?_, v, n, a + 1, _, hB, by omega, (wrapr z).1, (wrapr z).2, ?_, ?_, ?_⟩, hO⟩
  all_goals subst hW
  · simp [h2]
  · simp only [World.cell?_drewN]
    rw [World.cell?_setCell_other _ _ _ _ (by simp), World.cell?_setCell_other _ _ _ _ (by simp)]
    exact c0
  · simp only [World.cell?_drewN]
    rw [World.cell?_setCell_other _ _ _ _ (by simp), World.cell?_setCell_same _ _ _ (show (w.drewN q1).cell? ⟨c, 1, none⟩ = _ from c1)]
    simp
  · simp only [World.cell?_drewN]
    exact World.cell?_setCell_same _ _ _ (show ((w.drewN q1).setCell ⟨c, 1, none⟩ (.int .i64 ((a : Int) + 1))).cell? ⟨c, 2, none⟩ = _ from (World.cell?_setCell_other _ _ _ _ (by simp)).trans c2)
theorem Off.free {S : Nat → Prop} {a w : World} (h : Off S a w) {b : Nat} (hb : b < a.heap.size) (hs : ¬ S b) (o : Nat) : w.frozen? ⟨b, o, none⟩ = a.frozen? ⟨b, o, none⟩ := World.frozen?_of_block (a := ⟨b, o, none⟩) (h.block b hb hs)
theorem Off.new {S : Nat → Prop} {a w : World} (h : Off S a w) {p : Addr} (hp : a.heap.size ≤ p.block) (u : Value) : Off S a (w.setCell p u) :=
  ⟨h.os, h.tape, h.output, by simpa using h.size, fun k hk hs => (heap_setCell_other w p k u (fun e => by omega)).trans (h.block k hk hs)⟩
theorem Arr.off {S : Nat → Prop} {w w' : World} {b : Nat} {g : Nat → Int} (h : Arr w b g) (hx : Off S w w') (hb : b < w.heap.size) (hs : ¬ S b) : Arr w' b g := fun j hj =>
  ⟨(hx.cell hb hs j).trans (h j hj).1, (hx.free hb hs j).trans (h j hj).2⟩
theorem Arr2.alloc {w : World} {b : Nat} {g : Nat → Int} (h : Arr2 w b g) (o : Obj) (hb : b < w.heap.size) : Arr2 (w.alloc o) b g := h.ext ((Ext.refl w).alloc o) hb
theorem Arr2.off {S : Nat → Prop} {w w' : World} {b : Nat} {g : Nat → Int} (h : Arr2 w b g) (hx : Off S w w') (hb : b < w.heap.size) (hs : ¬ S b) : Arr2 w' b g := fun j hj =>
  ⟨(hx.cell hb hs j).trans (h j hj).1, (hx.free hb hs j).trans (h j hj).2⟩
theorem cur_off {S : Nat → Prop} {c m : Nat} {w w' : World} (h : Cur c m w) (hx : Off S w w') (hS : ∀ k, S k → c < k) : Cur c m w' := by
  obtain ⟨h1, h2, v, n, a, s, hb, ha, s0, s1, c0, c1, c2⟩ := h
  have hn : ¬ S c := fun k => by have := hS c k; omega
  exact ⟨Nat.lt_of_lt_of_le h1 hx.size, fun o => (hx.free h1 hn o).trans (h2 o), v, n, a, s, byt_off hb (Nat.le_of_lt h1) (fun k hk => Nat.le_of_lt (hS k hk)) hx, ha, s0, s1, (hx.cell h1 hn 0).trans c0, (hx.cell h1 hn 1).trans c1, (hx.cell h1 hn 2).trans c2⟩
theorem cur_ext {c m : Nat} {w w' : World} (h : Cur c m w) (hx : Ext w w') : Cur c m w' := cur_off h (hx.off (fun _ => False)) (fun _ h => h.elim)
theorem cur_set {c m : Nat} {w : World} (h : Cur c m w) {p : Addr} (hp : c < p.block) (u : Value) : Cur c m (w.setCell p u) := cur_off h (Off.set (S := fun k => k = p.block) (Off.refl _ w) rfl u) (fun k hk => by omega)
theorem cur_new (w : World) (v : Value) (n : Nat) (t : TypeId) (h : Byt w w.heap.size v n) : Cur w.heap.size 0 (w.alloc (.cells #[v, .int .i64 0, .int .u64 0] t)) := by
  refine ⟨by simp, fun o => ?_, v, n, 0, 0, byt_ext h (Nat.le_refl _) ((Ext.refl w).alloc _), Nat.le_refl _, by omega, by omega, World.cell?_alloc_at _ _ _ _ rfl, World.cell?_alloc_at _ _ _ _ rfl, World.cell?_alloc_at _ _ _ _ rfl⟩
  exact World.frozen?_alloc_at _ _ _ _ rfl
/-- a list of numbers, wherever it lies -/
def Lst (w : World) (c : Nat) (u : Value) (L : List Int) : Prop := ∃ b o cap, u = .slice (some ⟨b, o, none⟩) L.length cap ∧ b ≠ c ∧ b < w.heap.size ∧ ∀ j x, L[j]? = some x → w.cell? ⟨b, o + j, none⟩ = some (.int .i64 x)
theorem lst_new (w : World) (c : Nat) (L : List Int) (t : TypeId) (hc : c < w.heap.size) (n cap : Nat) (hn : n ≤ L.length) : Lst (w.alloc (.cells (L.map (fun x => Value.int .i64 x)).toArray t)) c (.slice (some ⟨w.heap.size, 0, none⟩) n cap) (L.take n) := by
  refine ⟨w.heap.size, 0, cap, by rw [List.length_take, Nat.min_eq_left hn], by omega, by simp, fun j x h => ?_⟩
  have hj : L[j]? = some x := by
    rcases Nat.lt_or_ge j n with h1 | h1
    · rwa [List.getElem?_take_of_lt h1] at h
    · rw [List.getElem?_take_eq_none h1] at h; cases h
  refine (World.cell?_alloc_at _ _ _ _ rfl).trans ?_
  rw [Nat.zero_add]
  simp [hj]
theorem lst_newb (w : World) (c : Nat) (L : List Int) (t : TypeId) (hc : c < w.heap.size) (n cap : Nat) (hn : n ≤ L.length) (b : Nat) (hb : w.heap.size = b) : Lst (w.alloc (.cells (L.map (fun x => Value.int .i64 x)).toArray t)) c (.slice (some ⟨b, 0, none⟩) n cap) (L.take n) := by
  subst hb
  exact lst_new w c L t hc n cap hn
theorem lst_off {w w' : World} {c : Nat} {u : Value} {L : List Int} (h : Lst w c u L) (hO : Off (fun k => k = c) w w') : Lst w' c u L := by
  obtain ⟨b, o, cap, hu, hb, hbw, hcl⟩ := h
  exact ⟨b, o, cap, hu, hb, Nat.lt_of_lt_of_le hbw hO.size, fun j x hj => (hO.cell hbw hb _).trans (hcl j x hj)⟩
theorem next_n (c m : Nat) (hm : m + 1 ≤ 1099511627776) (w : World) (h : Cur c m w) : Calls Try.prog 139 #[.pointer (some ⟨c, 0, none⟩)] w fun e w' => ∃ x : Nat, e = .returned (.int .i64 (x : Nat)) ∧ x < 256 ∧ Cur c (m + 1) w' ∧ Off (fun k => k = c) w w' := by
  obtain ⟨h1, h2, v, n, a, s, hb, ha, hs0, hs1, c0, c1, c2⟩ := h
  have f0 := h2 0
  have f1 := h2 1
  have f2 := h2 2
  have HB := Lib.hid hb
  obtain ⟨ao, cap, rfl, hbs⟩ := hb
  by_cases hlt : a < n
  · obtain ⟨b, o, rfl, hbc, hcl⟩ := hbs (by omega)
    obtain ⟨x, hx, hxc⟩ := hcl a hlt
    clear hbs hcl
    go_enter Try.func139, Try.ntmps139
    go_wp2
    go_quiet (fail)
    go_wp2
    go_quiet (fail)
    go_wp2
    go_quiet (fail)
    go_wp2
    go_returns
    obtain ⟨r1, r2⟩ := cur_next _ _ h1 h2 HB.out ha c0 c1 _ c2 rfl
    exact ⟨x, rfl, hx, r1, r2⟩
  · go_enter Try.func139, Try.ntmps139
    go_wp2
    go_quiet (fail)
    go_wp2
    go_quiet (fail)
    go_wp2
    go_returns
    obtain ⟨r1, r2⟩ := cur_next _ _ h1 h2 HB.out ha c0 c1 _ c2 rfl
    have hwr := wrapr (IntKind.u64.wrap (IntKind.u64.wrap (s * 6364136223846793005)) + 462197)
    obtain ⟨x, hx, hx2⟩ := byte_of (z := IntKind.u64.wrap (IntKind.u64.wrap (IntKind.u64.wrap (s * 6364136223846793005)) + 462197) / 1099511627776) (by omega) (by omega)
    exact ⟨x, congrArg (fun z => Ending.returned (.int .i64 z)) hx, hx2, r1, r2⟩
theorem pick_n (c m k : Nat) (hk : 1 ≤ k) (hk2 : k ≤ 1048576) (hm : m + 2 ≤ 1099511627776) (w : World) (h : Cur c m w) : Calls Try.prog 83 #[.pointer (some ⟨c, 0, none⟩), .int .i64 (k : Nat)] w fun e w' => ∃ x : Nat, e = .returned (.int .i64 (x : Nat)) ∧ x < k ∧ Cur c (m + 2) w' ∧ Off (fun k => k = c) w w' := by
  have HC := Lib.hid h
  clear h
  by_cases h1 : k ≤ 1
  · go_enter Try.func83, Try.ntmps83
    go_wp2
    go_returns
    exact ⟨0, rfl, by omega, cur_mono HC.out (by omega), Off.refl _ _⟩
  · by_cases h2 : 200 < k
    · go_enter Try.func83, Try.ntmps83
      go_wp2_with (first | (go_at_call 139; refine (next_n c m (by omega) _ HC.out).mono ?_; rintro e w1 ⟨x, rfl, hx, hc, hO⟩; replace HC := Lib.hid hc; clear hc; have HO := Lib.hid hO; clear hO) | (go_at_call 139; refine (next_n c (m + 1) (by omega) _ HC.out).mono ?_; rintro e w2 ⟨y, rfl, hy, hc, hO⟩; replace HC := Lib.hid hc; clear hc; replace HO := Lib.hid (HO.out.trans hO); clear hO))
      go_returns
      exact ⟨(x * 256 + y) % k, by first | rfl | simp, Nat.mod_lt _ (by omega), cur_mono HC.out (by omega), HO.out⟩
    · go_enter Try.func83, Try.ntmps83
      go_wp2_with (go_at_call 139; refine (next_n c m (by omega) _ HC.out).mono ?_; rintro e w1 ⟨x, rfl, hx, hc, hO⟩; replace HC := Lib.hid hc; clear hc; have HO := Lib.hid hO; clear hO)
      go_returns
      exact ⟨x % k, by first | rfl | simp, Nat.mod_lt _ (by omega), cur_mono HC.out (by omega), HO.out⟩
theorem one_n (c m k : Nat) (hk : 1 ≤ k) (hk2 : k ≤ 1048576) (hm : m + 2 ≤ 1099511627776) (w : World) (h : Cur c m w) : Calls Try.prog 82 #[.pointer (some ⟨c, 0, none⟩), .int .i64 (k : Nat)] w fun e w' => ∃ b : Bool, e = .returned (.bool b) ∧ Cur c (m + 2) w' ∧ Off (fun k => k = c) w w' := by
  have HC := Lib.hid h
  clear h
  go_enter Try.func82, Try.ntmps82
  go_wp2_with (go_at_call 83; refine (pick_n c m k hk hk2 hm _ HC.out).mono ?_; rintro e w1 ⟨x, rfl, hx, hc, hO⟩; replace HC := Lib.hid hc; clear hc; have HO := Lib.hid hO; clear hO)
  go_returns
  exact ⟨_, rfl, HC.out, HO.out⟩
theorem among_n (c m : Nat) (L : List Int) (hL : 1 ≤ L.length) (hL2 : L.length ≤ 1000) (hm : m + 2 ≤ 1099511627776) (u : Value) (w : World) (h : Cur c m w) (hu : Lst w c u L) : Calls Try.prog 88 #[.pointer (some ⟨c, 0, none⟩), u] w fun e w' => ∃ x, x ∈ L ∧ e = .returned (.int .i64 x) ∧ Cur c (m + 2) w' ∧ Off (fun k => k = c) w w' := by
  have HC := Lib.hid h
  clear h
  obtain ⟨b, o, cap, rfl, hb, hbw, hcl⟩ := hu
  go_enter Try.func88, Try.ntmps88
  go_wp2_with (go_at_call 83; refine (pick_n c m L.length hL (by omega) hm _ HC.out).mono ?_; rintro e w1 ⟨x, rfl, hx, hc, hO⟩; replace HC := Lib.hid hc; clear hc; have q := (hO.cell hbw hb (o + x)).trans (hcl x _ (List.getElem?_eq_getElem hx)); have HO := Lib.hid hO; clear hO; have HX := Lib.hid (List.getElem_mem hx); generalize L[x] = z at *)
  go_returns
  exact ⟨_, HX.out, rfl, HC.out, HO.out⟩
end Go.Proofs.Ytlifhoajamnehaa
set_option linter.unusedVariables false
set_option linter.unusedSimpArgs false
set_option maxRecDepth 100000
set_option maxHeartbeats 1000000
namespace Go.Proofs.Ytlifhoajamnehaa
open Go Go.RowKit Instr
/-! a draw that builds a sheet: cursor block c, result block p (white), sheet block b -/
structure Sht (c m p b : Nat) (w wr : World) (g : Nat → Int) : Prop where
  cur : Cur c m wr
  off : Off (fun k => k = c) w wr
  res : Arr wr p (fun _ => 0)
  lres : p < wr.heap.size
  arr : Arr wr b g
  larr : b < wr.heap.size
theorem Sht.call {c m k p b : Nat} {w wr w' : World} {g : Nat → Int} (h : Sht c m p b w wr g) (hp : p ≠ c) (hb : b ≠ c) (hc : Cur c k w') (hO : Off (fun k => k = c) wr w') : Sht c k p b w w' g :=
  ⟨hc, h.off.trans hO, h.res.off hO h.lres hp, Nat.lt_of_lt_of_le h.lres hO.size, h.arr.off hO h.larr hb, Nat.lt_of_lt_of_le h.larr hO.size⟩
theorem Sht.ext {c m p b : Nat} {w wr w' : World} {g : Nat → Int} (h : Sht c m p b w wr g) (hx : Ext wr w') : Sht c m p b w w' g :=
  ⟨cur_ext h.cur hx, h.off.trans (hx.off _), h.res.ext hx h.lres, Nat.lt_of_lt_of_le h.lres hx.size, h.arr.ext hx h.larr, Nat.lt_of_lt_of_le h.larr hx.size⟩
theorem Sht.mono {c m k p b : Nat} {w wr : World} {g : Nat → Int} (h : Sht c m p b w wr g) (hk : m ≤ k) : Sht c k p b w wr g := ⟨cur_mono h.cur hk, h.off, h.res, h.lres, h.arr, h.larr⟩
theorem Sht.set {c m p b : Nat} {w wr : World} {g : Nat → Int} (h : Sht c m p b w wr g) (hcb : c < b) (hwb : w.heap.size ≤ b) (hpb : p ≠ b) {q : Nat} (hq : q < 6) (v : Int) : Sht c m p b w (wr.setCell ⟨b, q, none⟩ (.int .i64 v)) (fun j => if j = q then v else g j) :=
  ⟨cur_set h.cur hcb _, h.off.new hwb _, h.res.far (fun e => hpb e.symm) _, by simpa using h.lres, h.arr.set hq v, by simpa using h.larr⟩
theorem Sht.six {c m p b : Nat} {w wr : World} {g : Nat → Int} (h : Sht c m p b w wr g) (hcb : c < b) (hwb : w.heap.size ≤ b) (hpb : p ≠ b) (v : Nat → Int) :
    Sht c m p b w ((((((wr.setCell ⟨b, 0, none⟩ (.int .i64 (v 0))).setCell ⟨b, 1, none⟩ (.int .i64 (v 1))).setCell ⟨b, 2, none⟩ (.int .i64 (v 2))).setCell ⟨b, 3, none⟩ (.int .i64 (v 3))).setCell ⟨b, 4, none⟩ (.int .i64 (v 4))).setCell ⟨b, 5, none⟩ (.int .i64 (v 5))) v := by
  have k := (((((h.set hcb hwb hpb (q := 0) (by decide) (v 0)).set hcb hwb hpb (q := 1) (by decide) (v 1)).set hcb hwb hpb (q := 2) (by decide) (v 2)).set hcb hwb hpb (q := 3) (by decide) (v 3)).set hcb hwb hpb (q := 4) (by decide) (v 4)).set hcb hwb hpb (q := 5) (by decide) (v 5)
  exact ⟨k.cur, k.off, k.res, k.lres, h.arr.six v, k.larr⟩
/-- the result is written -/
theorem Sht.out {c m p b : Nat} {w wr : World} {g : Nat → Int} (h : Sht c m p b w wr g) (hcp : c < p) (hwp : w.heap.size ≤ p) (v : Nat → Int) :
    Arr ((((((wr.setCell ⟨p, 0, none⟩ (.int .i64 (v 0))).setCell ⟨p, 1, none⟩ (.int .i64 (v 1))).setCell ⟨p, 2, none⟩ (.int .i64 (v 2))).setCell ⟨p, 3, none⟩ (.int .i64 (v 3))).setCell ⟨p, 4, none⟩ (.int .i64 (v 4))).setCell ⟨p, 5, none⟩ (.int .i64 (v 5))) p v ∧
    Cur c m ((((((wr.setCell ⟨p, 0, none⟩ (.int .i64 (v 0))).setCell ⟨p, 1, none⟩ (.int .i64 (v 1))).setCell ⟨p, 2, none⟩ (.int .i64 (v 2))).setCell ⟨p, 3, none⟩ (.int .i64 (v 3))).setCell ⟨p, 4, none⟩ (.int .i64 (v 4))).setCell ⟨p, 5, none⟩ (.int .i64 (v 5))) ∧
    Off (fun k => k = c) w ((((((wr.setCell ⟨p, 0, none⟩ (.int .i64 (v 0))).setCell ⟨p, 1, none⟩ (.int .i64 (v 1))).setCell ⟨p, 2, none⟩ (.int .i64 (v 2))).setCell ⟨p, 3, none⟩ (.int .i64 (v 3))).setCell ⟨p, 4, none⟩ (.int .i64 (v 4))).setCell ⟨p, 5, none⟩ (.int .i64 (v 5))) :=
  ⟨h.res.six v, cur_set (cur_set (cur_set (cur_set (cur_set (cur_set h.cur hcp _) hcp _) hcp _) hcp _) hcp _) hcp _, (((((h.off.new hwp _).new hwp _).new hwp _).new hwp _).new hwp _).new hwp _⟩
theorem ret_cells2 {P : Program} {fn : Func} {p q : Tmp} {ty tz : TypeId} {tmps : Array Value} {a b : Addr} {v x : Value} {w : World} (h : fn.results = #[.cell p ty, .cell q tz]) (hp : tmps.getD p undef = .pointer (some a)) (hq : tmps.getD q undef = .pointer (some b)) (hl : (loadVar ty a).run P w = .ok v w) (hm : (loadVar tz b).run P w = .ok x w) : (results fn tmps).run P w = .ok (.tuple #[v, x]) w := by
  have hp' : tmps[p]?.getD undef = .pointer (some a) := by simpa using hp
  have hq' : tmps[q]?.getD undef = .pointer (some b) := by simpa using hq
  simp only [results, h]
  have e : (asAddr (.pointer (some a))).run P w = .ok a w := rfl
  have e2 : (asAddr (.pointer (some b))).run P w = .ok b w := rfl
  simp [Sem.run_bind, Result.andThen, hp', hl, hq', hm, e, e2]
abbrev set6 (w : World) (b : Nat) (v : Nat → Int) : World := (((((w.setCell ⟨b, 0, none⟩ (.int .i64 (v 0))).setCell ⟨b, 1, none⟩ (.int .i64 (v 1))).setCell ⟨b, 2, none⟩ (.int .i64 (v 2))).setCell ⟨b, 3, none⟩ (.int .i64 (v 3))).setCell ⟨b, 4, none⟩ (.int .i64 (v 4))).setCell ⟨b, 5, none⟩ (.int .i64 (v 5))
theorem Arr.far6 {w : World} {b q : Nat} {g : Nat → Int} (h : Arr w b g) (hq : q ≠ b) (v : Nat → Int) : Arr (set6 w q v) b g :=
  (((((h.far (p := ⟨q, 0, none⟩) hq _).far (p := ⟨q, 1, none⟩) hq _).far (p := ⟨q, 2, none⟩) hq _).far (p := ⟨q, 3, none⟩) hq _).far (p := ⟨q, 4, none⟩) hq _).far (p := ⟨q, 5, none⟩) hq _
theorem Off.six {S : Nat → Prop} {a w : World} (h : Off S a w) {q : Nat} (hq : a.heap.size ≤ q) (v : Nat → Int) : Off S a (set6 w q v) :=
  (((((h.new (p := ⟨q, 0, none⟩) hq _).new (p := ⟨q, 1, none⟩) hq _).new (p := ⟨q, 2, none⟩) hq _).new (p := ⟨q, 3, none⟩) hq _).new (p := ⟨q, 4, none⟩) hq _).new (p := ⟨q, 5, none⟩) hq _
theorem cur_six {c m : Nat} {w : World} (h : Cur c m w) {q : Nat} (hq : c < q) (v : Nat → Int) : Cur c m (set6 w q v) :=
  cur_set (cur_set (cur_set (cur_set (cur_set (cur_set h (p := ⟨q, 0, none⟩) hq _) (p := ⟨q, 1, none⟩) hq _) (p := ⟨q, 2, none⟩) hq _) (p := ⟨q, 3, none⟩) hq _) (p := ⟨q, 4, none⟩) hq _) (p := ⟨q, 5, none⟩) hq _
/-- two result sheets are written -/
theorem two_out {S : Nat → Prop} {a w : World} {p q : Nat} {g h : Nat → Int} (hp : Arr w p g) (hq : Arr w q h) (hpq : p ≠ q) (hO : Off S a w) (ap : a.heap.size ≤ p) (aq : a.heap.size ≤ q) (r s : Nat → Int) :
    Arr (set6 (set6 w p r) q s) p r ∧ Arr (set6 (set6 w p r) q s) q s ∧ Off S a (set6 (set6 w p r) q s) :=
  ⟨(hp.six r).far6 (fun e => hpq e.symm) s, (hq.far6 hpq r).six s, (hO.six ap r).six aq s⟩
end Go.Proofs.Ytlifhoajamnehaa
