/- Cur: contracts of functions, and lemmas, for this seat. Conditions: as each states. -/
import Derived.Test.YtadnfocbfabjnabByt
import Derived.BigQuiet
set_option linter.unusedVariables false
set_option maxRecDepth 100000
set_option maxHeartbeats 2000000
namespace Go.Proofs.Ytadnfocbfabjnab
open Go Go.RowKit Instr
/-! the cursor of the draws: block c, at most m bytes taken -/
def Cur (c m : Nat) (w : World) : Prop :=
  c < w.heap.size ∧ (∀ o, w.frozen? ⟨c, o, none⟩ = false) ∧ ∃ (v : Value) (n a : Nat) (s : Int), Byt w c v n ∧ a ≤ m ∧ 0 ≤ s ∧ s ≤ 18446744073709551615 ∧
    w.cell? ⟨c, 0, none⟩ = some v ∧ w.cell? ⟨c, 1, none⟩ = some (.int .i64 (a : Nat)) ∧ w.cell? ⟨c, 2, none⟩ = some (.int .u64 s)
theorem cur_mono {c m k : Nat} {w : World} (h : Cur c m w) (hk : m ≤ k) : Cur c k w := by
  obtain ⟨h1, h2, v, n, a, s, h3, h4, r⟩ := h
  exact ⟨h1, h2, v, n, a, s, h3, by omega, r⟩
theorem wrapr (z : Int) : 0 ≤ IntKind.u64.wrap z ∧ IntKind.u64.wrap z ≤ 18446744073709551615 := by
  rw [IntKind.wrap_u64]
  omega
theorem byte_of {z : Int} (h0 : 0 ≤ z) (h1 : z ≤ 18446744073709551615) : ∃ x : Nat, wrap64 (bits .and .u64 z 255) = (x : Nat) ∧ x < 256 := by
  obtain ⟨k, rfl⟩ : ∃ k : Nat, z = k := ⟨z.toNat, by omega⟩
  have hb : bits .and .u64 ((k : Nat) : Int) 255 = ((k &&& 255 : Nat) : Int) := u64_and_nat k 255 (by omega) (by omega)
  have hl : k &&& 255 < 256 := Nat.lt_of_le_of_lt Nat.and_le_right (by decide)
  refine ⟨k &&& 255, ?_, hl⟩
  rw [hb]
  generalize k &&& 255 = u at *
  simp only [wrap64]
  omega
/-- what a step of the cursor leaves -/
theorem cur_next {c m n a : Nat} {v : Value} {s : Int} {w W : World} (q1 q2 : Nat) (h1 : c < w.heap.size) (h2 : ∀ o, w.frozen? ⟨c, o, none⟩ = false) (hb : Byt w c v n) (ha : a ≤ m) (c0 : w.cell? ⟨c, 0, none⟩ = some v) (c1 : w.cell? ⟨c, 1, none⟩ = some (.int .i64 (a : Nat))) (z : Int) (c2 : w.cell? ⟨c, 2, none⟩ = some (.int .u64 s))
    (hW : W = ((((w.drewN q1).setCell ⟨c, 1, none⟩ (.int .i64 ((a : Int) + 1))).setCell ⟨c, 2, none⟩ (.int .u64 (IntKind.u64.wrap z))).drewN q2)) : Cur c (m + 1) W ∧ Off (fun k => k = c) w W := by
  have hO : Off (fun k => k = c) w W := by
    subst hW
    exact (Off.set (S := fun k => k = c) (Off.set (S := fun k => k = c) (((Ext.refl w).drewN q1).off _) (p := ⟨c, 1, none⟩) rfl _) (p := ⟨c, 2, none⟩) rfl _).trans (((Ext.refl _).drewN q2).off _)
  have hB : Byt W c v n := byt_off hb (Nat.le_of_lt h1) (fun k hk => by omega) hO
  refine ⟨⟨Nat.lt_of_lt_of_le h1 hO.size, fun o => ?_, v, n, a + 1, _, hB, by omega, (wrapr z).1, (wrapr z).2, ?_, ?_, ?_⟩, hO⟩
  all_goals subst hW
  · simp [h2]
  · simp only [World.cell?_drewN]
    rw [World.cell?_setCell_other _ _ _ _ (by simp), World.cell?_setCell_other _ _ _ _ (by simp)]
    exact c0
  · simp only [World.cell?_drewN]
    rw [World.cell?_setCell_other _ _ _ _ (by simp), World.cell?_setCell_same _ _ _ (show (w.drewN q1).cell? ⟨c, 1, none⟩ = _ from c1)]
    simp
  · simp only [World.cell?_drewN]
    exact World.cell?_setCell_same _ _ _ (show ((w.drewN q1).setCell ⟨c, 1, none⟩ (.int .i64 ((a : Int) + 1))).cell? ⟨c, 2, none⟩ = _ from (World.cell?_setCell_other _ _ _ _ (by simp)).trans c2)
theorem Off.free {S : Nat → Prop} {a w : World} (h : Off S a w) {b : Nat} (hb : b < a.heap.size) (hs : ¬ S b) (o : Nat) : w.frozen? ⟨b, o, none⟩ = a.frozen? ⟨b, o, none⟩ := World.frozen?_of_block (a := ⟨b, o, none⟩) (h.block b hb hs)
theorem Off.new {S : Nat → Prop} {a w : World} (h : Off S a w) {p : Addr} (hp : a.heap.size ≤ p.block) (u : Value) : Off S a (w.setCell p u) :=
  ⟨h.os, h.tape, h.output, by simpa using h.size, fun k hk hs => (heap_setCell_other w p k u (fun e => by omega)).trans (h.block k hk hs)⟩
theorem Arr.off {S : Nat → Prop} {w w' : World} {b : Nat} {g : Nat → Int} (h : Arr w b g) (hx : Off S w w') (hb : b < w.heap.size) (hs : ¬ S b) : Arr w' b g := fun j hj =>
  ⟨(hx.cell hb hs j).trans (h j hj).1, (hx.free hb hs j).trans (h j hj).2⟩
theorem Arr2.alloc {w : World} {b : Nat} {g : Nat → Int} (h : Arr2 w b g) (o : Obj) (hb : b < w.heap.size) : Arr2 (w.alloc o) b g := h.ext ((Ext.refl w).alloc o) hb
theorem Arr2.off {S : Nat → Prop} {w w' : World} {b : Nat} {g : Nat → Int} (h : Arr2 w b g) (hx : Off S w w') (hb : b < w.heap.size) (hs : ¬ S b) : Arr2 w' b g := fun j hj =>
  ⟨(hx.cell hb hs j).trans (h j hj).1, (hx.free hb hs j).trans (h j hj).2⟩
theorem cur_off {S : Nat → Prop} {c m : Nat} {w w' : World} (h : Cur c m w) (hx : Off S w w') (hS : ∀ k, S k → c < k) : Cur c m w' := by
  obtain ⟨h1, h2, v, n, a, s, hb, ha, s0, s1, c0, c1, c2⟩ := h
  have hn : ¬ S c := fun k => by have := hS c k; omega
  exact ⟨Nat.lt_of_lt_of_le h1 hx.size, fun o => (hx.free h1 hn o).trans (h2 o), v, n, a, s, byt_off hb (Nat.le_of_lt h1) (fun k hk => Nat.le_of_lt (hS k hk)) hx, ha, s0, s1, (hx.cell h1 hn 0).trans c0, (hx.cell h1 hn 1).trans c1, (hx.cell h1 hn 2).trans c2⟩
theorem cur_ext {c m : Nat} {w w' : World} (h : Cur c m w) (hx : Ext w w') : Cur c m w' := cur_off h (hx.off (fun _ => False)) (fun _ h => h.elim)
theorem cur_set {c m : Nat} {w : World} (h : Cur c m w) {p : Addr} (hp : c < p.block) (u : Value) : Cur c m (w.setCell p u) := cur_off h (Off.set (S := fun k => k = p.block) (Off.refl _ w) rfl u) (fun k hk => by omega)
theorem cur_new (w : World) (v : Value) (n : Nat) (t : TypeId) (h : Byt w w.heap.size v n) : Cur w.heap.size 0 (w.alloc (.cells #[v, .int .i64 0, .int .u64 0] t)) := by
  refine ⟨by simp, fun o => ?_, v, n, 0, 0, byt_ext h (Nat.le_refl _) ((Ext.refl w).alloc _), Nat.le_refl _, by omega, by omega, World.cell?_alloc_at _ _ _ _ rfl, World.cell?_alloc_at _ _ _ _ rfl, World.cell?_alloc_at _ _ _ _ rfl⟩
  exact World.frozen?_alloc_at _ _ _ _ rfl
/-- a list of numbers, wherever it lies -/
def Lst (w : World) (c : Nat) (u : Value) (L : List Int) : Prop := ∃ b o cap, u = .slice (some ⟨b, o, none⟩) L.length cap ∧ b ≠ c ∧ b < w.heap.size ∧ ∀ j x, L[j]? = some x → w.cell? ⟨b, o + j, none⟩ = some (.int .i64 x)
theorem lst_new (w : World) (c : Nat) (L : List Int) (t : TypeId) (hc : c < w.heap.size) (n cap : Nat) (hn : n ≤ L.length) : Lst (w.alloc (.cells (L.map (fun x => Value.int .i64 x)).toArray t)) c (.slice (some ⟨w.heap.size, 0, none⟩) n cap) (L.take n) := by
  refine ⟨w.heap.size, 0, cap, by rw [List.length_take, Nat.min_eq_left hn], by omega, by simp, fun j x h => ?_⟩
  have hj : L[j]? = some x := by
    rcases Nat.lt_or_ge j n with h1 | h1
    · rwa [List.getElem?_take_of_lt h1] at h
    · rw [List.getElem?_take_eq_none h1] at h; cases h
  refine (World.cell?_alloc_at _ _ _ _ rfl).trans ?_
  rw [Nat.zero_add]
  simp [hj]
theorem lst_newb (w : World) (c : Nat) (L : List Int) (t : TypeId) (hc : c < w.heap.size) (n cap : Nat) (hn : n ≤ L.length) (b : Nat) (hb : w.heap.size = b) : Lst (w.alloc (.cells (L.map (fun x => Value.int .i64 x)).toArray t)) c (.slice (some ⟨b, 0, none⟩) n cap) (L.take n) := by
  subst hb
  exact lst_new w c L t hc n cap hn
theorem lst_off {w w' : World} {c : Nat} {u : Value} {L : List Int} (h : Lst w c u L) (hO : Off (fun k => k = c) w w') : Lst w' c u L := by
  obtain ⟨b, o, cap, hu, hb, hbw, hcl⟩ := h
  exact ⟨b, o, cap, hu, hb, Nat.lt_of_lt_of_le hbw hO.size, fun j x hj => (hO.cell hbw hb _).trans (hcl j x hj)⟩
theorem next_n (c m : Nat) (hm : m + 1 ≤ 1099511627776) (w : World) (h : Cur c m w) : Calls Try.prog 62 #[.pointer (some ⟨c, 0, none⟩)] w fun e w' => ∃ x : Nat, e = .returned (.int .i64 (x : Nat)) ∧ x < 256 ∧ Cur c (m + 1) w' ∧ Off (fun k => k = c) w w' := by
  obtain ⟨h1, h2, v, n, a, s, hb, ha, hs0, hs1, c0, c1, c2⟩ := h
  have f0 := h2 0
  have f1 := h2 1
  have f2 := h2 2
  have HB := Lib.hid hb
  obtain ⟨ao, cap, rfl, hbs⟩ := hb
  by_cases hlt : a < n
  · obtain ⟨b, o, rfl, hbc, hcl⟩ := hbs (by omega)
    obtain ⟨x, hx, hxc⟩ := hcl a hlt
    clear hbs hcl
    go_enter Try.func62, Try.ntmps62
    go_wp2
    go_quiet (fail)
    go_wp2
    go_quiet (fail)
    go_wp2
    go_quiet (fail)
    go_wp2
    go_returns
    obtain ⟨r1, r2⟩ := cur_next _ _ h1 h2 HB.out ha c0 c1 _ c2 rfl
    exact ⟨x, rfl, hx, r1, r2⟩
  · go_enter Try.func62, Try.ntmps62
    go_wp2
    go_quiet (fail)
    go_wp2
    go_quiet (fail)
    go_wp2
    go_returns
    obtain ⟨r1, r2⟩ := cur_next _ _ h1 h2 HB.out ha c0 c1 _ c2 rfl
    have hwr := wrapr (IntKind.u64.wrap (IntKind.u64.wrap (s * 6364136223846793005)) + 462197)
    obtain ⟨x, hx, hx2⟩ := byte_of (z := IntKind.u64.wrap (IntKind.u64.wrap (IntKind.u64.wrap (s * 6364136223846793005)) + 462197) / 1099511627776) (by omega) (by omega)
    exact ⟨x, congrArg (fun z => Ending.returned (.int .i64 z)) hx, hx2, r1, r2⟩
theorem pick_n (c m k : Nat) (hk : 1 ≤ k) (hk2 : k ≤ 1048576) (hm : m + 2 ≤ 1099511627776) (w : World) (h : Cur c m w) : Calls Try.prog 48 #[.pointer (some ⟨c, 0, none⟩), .int .i64 (k : Nat)] w fun e w' => ∃ x : Nat, e = .returned (.int .i64 (x : Nat)) ∧ x < k ∧ Cur c (m + 2) w' ∧ Off (fun k => k = c) w w' := by
  have HC := Lib.hid h
  clear h
  by_cases h1 : k ≤ 1
  · go_enter Try.func48, Try.ntmps48
    go_wp2
    go_returns
    exact ⟨0, rfl, by omega, cur_mono HC.out (by omega), Off.refl _ _⟩
  · by_cases h2 : 200 < k
    · go_enter Try.func48, Try.ntmps48
      go_wp2_with (first | (go_at_call 62; refine (next_n c m (by omega) _ HC.out).mono ?_; rintro e w1 ⟨x, rfl, hx, hc, hO⟩; replace HC := Lib.hid hc; clear hc; have HO := Lib.hid hO; clear hO) | (go_at_call 62; refine (next_n c (m + 1) (by omega) _ HC.out).mono ?_; rintro e w2 ⟨y, rfl, hy, hc, hO⟩; replace HC := Lib.hid hc; clear hc; replace HO := Lib.hid (HO.out.trans hO); clear hO))
      go_returns
      exact ⟨(x * 256 + y) % k, by first | rfl | simp, Nat.mod_lt _ (by omega), cur_mono HC.out (by omega), HO.out⟩
    · go_enter Try.func48, Try.ntmps48
      go_wp2_with (go_at_call 62; refine (next_n c m (by omega) _ HC.out).mono ?_; rintro e w1 ⟨x, rfl, hx, hc, hO⟩; replace HC := Lib.hid hc; clear hc; have HO := Lib.hid hO; clear hO)
      go_returns
      exact ⟨x % k, by first | rfl | simp, Nat.mod_lt _ (by omega), cur_mono HC.out (by omega), HO.out⟩
theorem one_n (c m k : Nat) (hk : 1 ≤ k) (hk2 : k ≤ 1048576) (hm : m + 2 ≤ 1099511627776) (w : World) (h : Cur c m w) : Calls Try.prog 47 #[.pointer (some ⟨c, 0, none⟩), .int .i64 (k : Nat)] w fun e w' => ∃ b : Bool, e = .returned (.bool b) ∧ Cur c (m + 2) w' ∧ Off (fun k => k = c) w w' := by
  have HC := Lib.hid h
  clear h
  go_enter Try.func47, Try.ntmps47
  go_wp2_with (go_at_call 48; refine (pick_n c m k hk hk2 hm _ HC.out).mono ?_; rintro e w1 ⟨x, rfl, hx, hc, hO⟩; replace HC := Lib.hid hc; clear hc; have HO := Lib.hid hO; clear hO)
  go_returns
  exact ⟨_, rfl, HC.out, HO.out⟩
theorem among_n (c m : Nat) (L : List Int) (hL : 1 ≤ L.length) (hL2 : L.length ≤ 1000) (hm : m + 2 ≤ 1099511627776) (u : Value) (w : World) (h : Cur c m w) (hu : Lst w c u L) : Calls Try.prog 60 #[.pointer (some ⟨c, 0, none⟩), u] w fun e w' => ∃ x, x ∈ L ∧ e = .returned (.int .i64 x) ∧ Cur c (m + 2) w' ∧ Off (fun k => k = c) w w' := by
  have HC := Lib.hid h
  clear h
  obtain ⟨b, o, cap, rfl, hb, hbw, hcl⟩ := hu
  go_enter Try.func60, Try.ntmps60
  go_wp2_with (go_at_call 48; refine (pick_n c m L.length hL (by omega) hm _ HC.out).mono ?_; rintro e w1 ⟨x, rfl, hx, hc, hO⟩; replace HC := Lib.hid hc; clear hc; have q := (hO.cell hbw hb (o + x)).trans (hcl x _ (List.getElem?_eq_getElem hx)); have HO := Lib.hid hO; clear hO; have HX := Lib.hid (List.getElem_mem hx); generalize L[x] = z at *)
  go_returns
  exact ⟨_, HX.out, rfl, HC.out, HO.out⟩
end Go.Proofs.Ytadnfocbfabjnab
